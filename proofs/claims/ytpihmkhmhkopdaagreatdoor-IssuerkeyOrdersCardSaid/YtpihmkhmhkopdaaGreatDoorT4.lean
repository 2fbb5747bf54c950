/-
  THE THEORY OF THIS CLAIM: a logic for its functions, generic over the program; part 4. Own work.
-/
import Derived.Test.YtpihmkhmhkopdaaGreatDoorT3
set_option linter.all false
/-
  ONE STEP OF A REGION IN THE MODEL. Own work; generic over the program.
-/
set_option linter.all false
namespace Go.Dom
open Go.RowKit

/-- An operation of the model and its compiled form. -/
structure OpC (P : Program) [Tabs P] (nt : Nat) (ops : Array Oper) (o : Oper) (so : SOp) : Prop where
  op : compOp P o = some so.o
  dst : o.dst = so.d
  dlt : ∀ d, so.d = some d → d < nt
  gd : o.guard.map (fun p => (((ops[p.1]?).bind (·.dst)), p.2)) = so.g.map fun p => (some p.1, p.2)
  glt : ∀ p, so.g = some p → p.1 < nt

section
variable {P : Program} [Tabs P] {E : Env P} {al : Nat → Prop} {tf : Nat → AV} {hf : Nat → Option AObj} {a : Act} {w : World}

theorem stay_new {C0 C C' : Cx} {base : Nat} {hf' : Nat → Option AObj} (h : ∀ n ob, hf n = some ob → (C0.al n ∧ C.mu n = C0.mu n) ∨ base ≤ C.mu n) (hs : Stay base C C' hf hf') : ∀ n ob, hf' n = some ob → (C0.al n ∧ C'.mu n = C0.mu n) ∨ base ≤ C'.mu n := by
  intro n ob hn
  rcases hs n ob hn with ⟨ob0, h0, hm⟩ | hb
  · rw [hm]; exact h n ob0 h0
  · exact .inr hb

theorem run_call {o : Oper} {c : Call} (ho : o.op = .call c) {x : Operand} (hc : c.callee = .value x) {f g : FuncId} {va vc : List Value} (hx : a.eval x = .func (.func f) va.toArray vc.toArray) (he : Enters P f g) :
    (execOp a.eval o).run P w = .ok (.enter g (va ++ (c.args.toList.map a.eval ++ vc)).toArray) w := by
  simp only [execOp, ho, resolve, hc, hx, Deferred.ofValue, Sem.run_bind, Sem.run_pure, Result.andThen, invoke]
  have := he (va ++ (c.args.toList.map a.eval ++ vc)).toArray w
  have e : va.toArray ++ c.args.map a.eval ++ vc.toArray = (va ++ (c.args.toList.map a.eval ++ vc)).toArray := Array.ext' (by simp)
  rw [e]; exact this

theorem RelL.app {α : Type} {R : α → Value → Prop} {l m : List α} {vs us : List Value} (h : RelL R l vs) (k : RelL R m us) : RelL R (l ++ m) (vs ++ us) := by
  refine ⟨by simp [h.1, k.1], fun j x v hx hv => ?_⟩
  by_cases hj : j < l.length
  · rw [List.getElem?_append_left hj] at hx
    rw [List.getElem?_append_left (by rw [← h.1]; exact hj)] at hv
    exact h.2 j x v hx hv
  · rw [List.getElem?_append_right (by omega)] at hx
    rw [List.getElem?_append_right (by rw [← h.1]; omega)] at hv
    rw [← h.1] at hv
    exact k.2 _ x v hx hv

theorem fnAp_ok {C : Cx} {fv : AV} {v : Value} {as avs : List AV} {vs : List Value} {f : FuncId} (h : fnAp fv as = some (f, avs)) (hv : AR C fv v) (hr : RelL (AR C) as vs) :
    ∃ va vc : List Value, v = .func (.func f) va.toArray vc.toArray ∧ RelL (AR C) avs (va ++ (vs ++ vc)) := by
  unfold fnAp at h
  replace hv := hv.nz
  generalize fv.nz = fv at hv h
  split at h
  · simp only [Option.some.injEq, Prod.mk.injEq] at h
    obtain ⟨rfl, rfl⟩ := h
    cases hv with | v hv => cases hv; exact ⟨[], [], rfl, by simpa using hr⟩
  · simp only [Option.some.injEq, Prod.mk.injEq] at h
    obtain ⟨rfl, rfl⟩ := h
    cases hv with
    | fn f a c va vc hla hlc ha hc => exact ⟨va, vc, rfl, RelL.app ⟨hla, ha⟩ (hr.app ⟨hlc, hc⟩)⟩
  · cases h

theorem viewRd_le {C : Cx} {hf : Nat → Option AObj} {wr : Nat → Prop} {w : World} (h : HR C hf wr w) [∀ b, Decidable (∃ n ob, hf n = some ob ∧ C.mu n = b)] {b o : Nat} {v : Value} (hv : C.rd b o = some v) : viewRd C hf w b o = some v := by
  unfold viewRd
  split
  · exact h.rdw _ _ _ hv
  · exact hv

theorem comp_call {o : Oper} {f : SX} {args : List SX} (h : compOp P o = some (.call f args)) : ∃ c x, o.op = .call c ∧ c.callee = .value x ∧ sx P x = some f ∧ mapO (sx P) c.args.toList = some args := by
  unfold compOp at h
  split at h
  case h_20 c ho =>
    unfold compCall at h
    split at h
    · rename_i x hx
      simp only [Option.bind_eq_bind, Option.bind_eq_some_iff, Option.some.injEq, SO.call.injEq] at h
      obtain ⟨f', hf', as, has, rfl, rfl⟩ := h
      exact ⟨c, x, ho, hx, hf', has⟩
    · exfalso
      split at h
      · split at h <;> simp [Option.bind_eq_some_iff] at h
      · split at h <;> simp [Option.bind_eq_some_iff] at h
      · split at h <;> simp [Option.bind_eq_some_iff] at h
      · split at h <;> simp [Option.bind_eq_some_iff] at h
      · simp [Option.bind_eq_some_iff] at h
      · simp [Option.bind_eq_some_iff] at h
      · simp [Option.bind_eq_some_iff] at h
      · split at h
        · split at h
          · simp [Option.bind_eq_some_iff] at h
          · cases h
        · cases h
      · cases h
    · cases h
  all_goals exfalso
  all_goals first
    | (simp [Option.bind_eq_some_iff] at h; done)
    | (split at h <;> simp [Option.bind_eq_some_iff] at h; done)
    | (split at h <;> first | (simp [Option.bind_eq_some_iff] at h; done) | (split at h <;> first | (simp [Option.bind_eq_some_iff] at h; done) | (split at h <;> simp [Option.bind_eq_some_iff] at h)))
    | cases h

/-- The wide fence, at a frame of a round or of none. -/
def FR (ro : Option Nat) : Fence := { Fence.wide with round := ro }
theorem calls_FR {ro : Option Nat} {n : Nat} {f : FuncId} {args : Array Value} {w : World} {R : Ending → World → Prop} (h : Calls P f args w R) : CallsIn (FR ro) n P f args w R :=
  (callsIn_wide.2 h : CallsIn Fence.wide n P f args w R)
theorem wpIn_enter {ro : Option Nat} {o : Oper} {K : Act → World → Prop} {Q : Exit → Act → World → Prop} {f : FuncId} {args : Array Value} {w1 : World} (hnd : ∀ c, o.op ≠ .defer c) (hrun : (execOp a.eval o).run P w = .ok (.enter f args) w1)
    (h : Calls P f args w1 fun
      | .returned v, w'' => K (a.put o.dst v) w''
      | .panicked chain, w'' => Q (.panic chain) a w''
      | .outgrown, _ => LetsOut Q) : o.wpIn (FR ro) 0 P a w K Q := by
  refine ⟨fun _ _ => trivial, ?_⟩
  rw [Oper.semAt_eq _ _ _ hnd, hrun, Oper.uponIn_enter]
  exact ⟨fun h => (by cases h), calls_FR h⟩
theorem wpIn_value {ro : Option Nat} {o : Oper} {K : Act → World → Prop} {Q : Exit → Act → World → Prop} {v : Value} {w1 : World} (hnd : ∀ c, o.op ≠ .defer c) (hrun : (execOp a.eval o).run P w = .ok (.value v) w1) (h : K (a.put o.dst v) w1) : o.wpIn (FR ro) 0 P a w K Q := by
  refine ⟨fun _ _ => trivial, ?_⟩
  rw [Oper.semAt_eq _ _ _ hnd, hrun, Oper.uponIn_value]; exact h
theorem wpIn_skp {ro : Option Nat} {o : Oper} {K : Act → World → Prop} {Q : Exit → Act → World → Prop} {w1 : World} (hnd : ∀ c, o.op ≠ .defer c) (hrun : (execOp a.eval o).run P w = .ok .skip w1) (h : K (a.put o.dst undef) w1) : o.wpIn (FR ro) 0 P a w K Q := by
  refine ⟨fun _ _ => trivial, ?_⟩
  rw [Oper.semAt_eq _ _ _ hnd, hrun, Oper.uponIn_skip]; exact h

theorem step_sim {nx k : Nat} {ops : Array Oper} {o : Oper} {so : SOp} {tf' : Nat → AV} {hf' : Nat → Option AObj} {rs ws : List Nat} {Q : Exit → Act → World → Prop} {K : Act → World → Prop}
    (hok : OpC P E.nt ops o so) (hwr : ∀ b, E.fr ≤ b → E.wr b) (hst : FStep P nx k so tf hf tf' hf' rs ws) (hsr : SR E al tf hf a w) (hnm : ¬ al (nx + k))
    (hK : ∀ a' w', SR E (fun n => al n ∨ n = nx + k) tf' hf' a' w' → K a' w') :
    (if Region.wanted o (yielded ops a.tmps) then o.wpIn (FR E.ro) 0 P a w K Q else (∀ f, o.about P w a.eval = some f → (FR E.ro).fn f) ∧ K (a.put o.dst undef) w) := by
  have hnd : ∀ c, o.op ≠ .defer c := fun c hc => by have := hok.op; simp [compOp, hc] at this
  obtain ⟨C, hal, hh, hrd, ⟨hwf, hC0, hst0⟩, hdf, hsz, htm⟩ := hsr
  have hdlt : ∀ d, so.d = some d → d < a.tmps.size := fun d hd => by rw [hsz]; exact hok.dlt d hd
  have hglt : ∀ p, so.g = some p → p.1 < a.tmps.size := fun p hp => by rw [hsz]; exact hok.glt p hp
  rcases hst with ⟨hg, rfl, rfl, -, -⟩ | ⟨hg, ao, hop, rfl, rfl, -, -⟩
  · have hwant := gd_ok hok.gd hglt htm hg
    rw [hwant]
    simp only [Bool.false_eq_true, if_false]
    refine ⟨fun _ _ => trivial, hK _ _ ⟨C.give (nx + k), ?_, hh.give _, hrd, ⟨hwf, hC0.trans (C.le_give _), hst0⟩, ?_, ?_, ?_⟩⟩
    · intro n; simp only [Cx.give, hal]
    · rw [put_defers]; exact hdf
    · rw [put_size]; exact hsz
    · rw [hok.dst]
      refine put_ok hdlt (rel_mono (C.le_give _) htm) ?_
      exact .v (.tup [] [] rfl (fun k x v hx => by simp at hx))
  · have hwant := gd_ok hok.gd hglt htm hg
    rw [hwant]
    simp only [if_true]
    unfold OpR at hop
    split at hop
    · rename_i f args hso
      have hcomp := hok.op
      rw [hso] at hcomp
      obtain ⟨c, x, ho, hc, hx, has⟩ := comp_call hcomp
      have hcall0 := ho
      have htr : ∀ b o v, TR P b o = some v → C.rd b o = some v := fun b o v hv => hC0.rd _ _ _ (E.gl _ _ _ hv)
      have hfv := sx_ok hx ⟨htr, htm⟩
      have hav := sxL_ok has ⟨htr, htm⟩
      have fin : ∀ (r : PV) (g : FuncId) (f0 : FuncId) (va vc : List Value), a.eval x = .func (.func f0) va.toArray vc.toArray → Enters P f0 g →
          Calls P g (va ++ (c.args.toList.map a.eval ++ vc)).toArray w (fun e w' => ∃ v, e = .returned v ∧ Below w.heap.size w w' ∧ PR (extRd C.rd w w') r v) →
          (∀ a' w', SR E (fun n => al n ∨ n = nx + k) (putF tf so.d (.v r)) hf a' w' → K a' w') → o.wpIn (FR E.ro) 0 P a w K Q := by
        intro r g f0 va vc hxe he hcall hK
        have hrun := run_call (P := P) (w := w) ho hc hxe he
        refine wpIn_enter hnd hrun ?_
        refine hcall.mono ?_
        rintro e w' ⟨v, rfl, hb, hpr⟩
        refine hK _ _ ⟨C.after w w' (nx + k), ?_, hh.after hb _, ?_, ⟨hwf.trans (Wf.below hb), hC0.trans (Cx.le_after hh w' _), hst0⟩, ?_, ?_, ?_⟩
        · intro n; simp only [Cx.after, hal]
        · intro b hlt
          rw [← hrd b hlt]
          funext q
          have : b < w.heap.size := Nat.lt_of_lt_of_le (E.oldFr hlt) hwf.fr
          simp [Cx.after, extRd, this]
        · rw [put_defers]; exact hdf
        · rw [put_size]; exact hsz
        · rw [hok.dst]
          exact put_ok hdlt (rel_mono (Cx.le_after hh w' _) htm) (.v hpr)
      cases hop with
      | eff f0 avs hs v up hf0 hhs he =>
        obtain ⟨g, hen, hcall⟩ := he
        obtain ⟨va, vc, hxe, hav⟩ := fnAp_ok hf0 hfv hav
        have hrun := run_call (P := P) (w := w) ho hc hxe hen
        refine wpIn_enter hnd hrun ?_
        refine (hcall C hf E.wr w E.fr _ htr hh hwr hwf.fr hhs (fun h => hnm ((hal _).1 h)) hav).mono ?_
        rintro e w' ⟨val, C', rfl, hv, hh', hle, hal', hwf', hrd', hstay⟩
        refine hK _ _ ⟨C', ?_, hh', ?_, ⟨hwf.trans hwf', hC0.trans hle, stay_new hst0 (fun n ob hn => (hstay n ob hn).imp id (Nat.le_trans E.frl))⟩, ?_, ?_, ?_⟩
        · intro n; rw [hal', hal]
        · intro b hlt; rw [hrd' b (E.oldFr hlt)]; exact hrd b hlt
        · rw [put_defers]; exact hdf
        · rw [put_size]; exact hsz
        · rw [hok.dst]; exact put_ok hdlt (rel_mono hle htm) hv
      | same f0 v0 hf0 he =>
        obtain ⟨va, vc, hxe, hav⟩ := fnAp_ok hf0 hfv hav
        obtain ⟨val, us, hvs, hval, hnil⟩ := hav.uncons
        have hus := hnil.nil_inv
        subst hus
        have ea : va.toArray ++ c.args.map a.eval ++ vc.toArray = #[val] := by apply Array.ext'; simpa using hvs
        have hrun : (execOp a.eval o).run P w = .ok (.value val) w := by
          simp only [execOp, ho, resolve, hc, hxe, Deferred.ofValue, Sem.run_bind, Sem.run_pure, Result.andThen, invoke, ea]
          simpa using he val w
        refine wpIn_value hnd hrun ?_
        refine hK _ _ ⟨C.give (nx + k), ?_, hh.give _, hrd, ⟨hwf, hC0.trans (C.le_give _), hst0⟩, ?_, ?_, ?_⟩
        · intro n; simp only [Cx.give, hal]
        · rw [put_defers]; exact hdf
        · rw [put_size]; exact hsz
        · rw [hok.dst]; exact put_ok hdlt (rel_mono (C.le_give _) htm) (hval.mono (C.le_give _))
      | ext f0 avs pvs r hf0 hargs he =>
        obtain ⟨va, vc, hxe, hav⟩ := fnAp_ok hf0 hfv hav
        obtain ⟨val, hval, hpr⟩ := he C.rd _ w (pvA_ok hav hargs)
        have hrun : (execOp a.eval o).run P w = .ok (.value val) w := by
          simp only [execOp, ho, resolve, hc, hxe, Deferred.ofValue, Sem.run_bind, Sem.run_pure, Result.andThen, invoke]
          have e : va.toArray ++ c.args.map a.eval ++ vc.toArray = (va ++ (c.args.toList.map a.eval ++ vc)).toArray := Array.ext' (by simp)
          rw [e]; exact hval
        refine wpIn_value hnd hrun ?_
        refine hK _ _ ⟨C.give (nx + k), ?_, hh.give _, hrd, ⟨hwf, hC0.trans (C.le_give _), hst0⟩, ?_, ?_, ?_⟩
        · intro n; simp only [Cx.give, hal]
        · rw [put_defers]; exact hdf
        · rw [put_size]; exact hsz
        · rw [hok.dst]; exact put_ok hdlt (rel_mono (C.le_give _) htm) (.v hpr)
      | pure f0 avs pvs r hf0 hargs he =>
        obtain ⟨g, hen, hcall⟩ := he
        obtain ⟨va, vc, hxe, hav⟩ := fnAp_ok hf0 hfv hav
        exact fin r g f0 va vc hxe hen (hcall w C.rd _ htr hh.rdw (pvA_ok hav hargs)) hK
      | view f0 avs pvs r hf0 hargs hflat he =>
        obtain ⟨g, hen, hcall⟩ := he
        obtain ⟨va, vc, hxe, hav⟩ := fnAp_ok hf0 hfv hav
        have : ∀ b, Decidable (∃ n ob, hf n = some ob ∧ C.mu n = b) := fun b => Classical.propDecidable _
        have hvr : RelL (PR (viewRd C hf w)) pvs (va ++ (c.args.toList.map a.eval ++ vc)) := by
          obtain ⟨m1, m2⟩ := mapO_some hargs
          refine ⟨by rw [← m1]; exact hav.1, fun j y v hy hv => ?_⟩
          have hj : j < avs.length := by have := (List.getElem?_eq_some_iff.1 hy).1; omega
          exact view_ok hh 9 _ y v (hav.2 j _ v (List.getElem?_eq_getElem hj) hv) (m2 j _ y (List.getElem?_eq_getElem hj) hy)
        have hrdw : ∀ b o v, viewRd C hf w b o = some v → w.cell? ⟨b, o, none⟩ = some v := by
          intro b o v hv
          unfold viewRd at hv
          split at hv
          · exact hv
          · exact hh.rdw _ _ _ hv
        refine fin r g f0 va vc hxe hen ((hcall w _ _ (fun b o v hv => viewRd_le hh (htr b o v hv)) hrdw hvr).mono ?_) hK
        rintro e w' ⟨v, rfl, hb, hpr⟩
        exact ⟨v, rfl, hb, hpr.flat_any hflat⟩
      | give f0 avs pvs r hf0 hargs hlo he =>
        obtain ⟨g, hen, hcall⟩ := he
        obtain ⟨va, vc, hxe, hav⟩ := fnAp_ok hf0 hfv hav
        generalize hns : avs.flatMap (viewN hf 9) = ns at hlo hK
        have : ∀ b, Decidable (∃ n ob, onlyF hf ns n = some ob ∧ (C.only ns).mu n = b) := fun b => Classical.propDecidable _
        have ho := hh.only ns
        have hvr : RelL (PR (viewRd (C.only ns) (onlyF hf ns) w)) pvs (va ++ (c.args.toList.map a.eval ++ vc)) := by
          obtain ⟨m1, m2⟩ := mapO_some hargs
          refine ⟨by rw [← m1]; exact hav.1, fun j y v hy hv => ?_⟩
          have hj : j < avs.length := by have := (List.getElem?_eq_some_iff.1 hy).1; omega
          refine view_ok ho 9 _ y v ((hav.2 j _ v (List.getElem?_eq_getElem hj) hv).mono (C.le_only ns)) ?_
          rw [(view_hf (hf := hf) (hf' := onlyF hf ns) 9 _ fun n hn => ?_).1]
          · exact m2 j _ y (List.getElem?_eq_getElem hj) hy
          · have : n ∈ ns := by rw [← hns]; exact List.mem_flatMap.2 ⟨_, List.getElem_mem hj, hn⟩
            simp only [onlyF, this, if_true]
        have hrdw : ∀ b o v, viewRd (C.only ns) (onlyF hf ns) w b o = some v → w.cell? ⟨b, o, none⟩ = some v := by
          intro b o v hv
          unfold viewRd at hv
          split at hv
          · exact hv
          · exact hh.rdw _ _ _ hv
        have hrun := run_call (P := P) (w := w) hcall0 hc hxe hen
        refine wpIn_enter hnd hrun ?_
        refine (hcall w _ _ (fun b o v hv => viewRd_le ho (htr b o v hv)) hrdw hvr).mono ?_
        rintro e w' ⟨v, rfl, hb, hpr⟩
        obtain ⟨gle, gh⟩ := hh.gave hb ns (nx + k)
        have hrest : ∀ n ob, updF hf (ns.map fun n => (n, none)) n = some ob → hf n = some ob := by
          intro n ob hn
          rw [updF_give] at hn
          split at hn
          · cases hn
          · exact hn
        refine hK _ _ ⟨_, ?_, gh, ?_, ⟨hwf.trans (Wf.below hb), hC0.trans gle, fun n ob hn => hst0 n ob (hrest n ob hn)⟩, ?_, ?_, ?_⟩
        · intro n; simp only [Cx.gave, hal]
        · intro b hlt
          rw [← hrd b hlt]
          funext q
          have h1 : b < w.heap.size := Nat.lt_of_lt_of_le (E.oldFr hlt) hwf.fr
          simp only [Cx.gave, extRd, h1, if_true, viewRd]
          split
          · rename_i hex
            obtain ⟨m, oc, hmm, hmu⟩ := hex
            exfalso
            simp only [onlyF] at hmm
            split at hmm
            · rename_i hmem
              have hmu : C.mu m = b := hmu
              rcases hlt with hlt | hlt
              case inr => exact (E.lnf b hlt).2 (hmu ▸ hh.wr m oc hmm)
              rcases hst0 m oc hmm with ⟨h2, -⟩ | h2
              · have := E.lo m h2
                have := hlo m hmem
                omega
              · have hmu : C.mu m = b := hmu
                omega
            · cases hmm
          · rfl
        · rw [put_defers]; exact hdf
        · rw [put_size]; exact hsz
        · rw [hok.dst]; exact put_ok hdlt (rel_mono gle htm) (.v hpr)
    · obtain ⟨ha, hp⟩ := hop
      obtain ⟨val, w', C', hrun, hv, hh', hle, hal', hwf', hrd', hstay⟩ := aop_ok hok.op ha hp hh ⟨fun b o v hv => hC0.rd _ _ _ (E.gl _ _ _ hv), htm⟩ (base := E.fr) (fun h => hnm ((hal _).1 h)) hwr hwf.fr
      have goal : K (a.put o.dst val) w' := by
        refine hK _ _ ⟨C', ?_, hh', ?_, ⟨hwf.trans hwf', hC0.trans hle, stay_new hst0 (fun n ob hn => (hstay n ob hn).imp id (Nat.le_trans E.frl))⟩, ?_, ?_, ?_⟩
        · intro n; rw [hal', hal]
        · intro b hlt; rw [hrd' b (E.oldFr hlt)]; exact hrd b hlt
        · rw [put_defers]; exact hdf
        · rw [put_size]; exact hsz
        · rw [hok.dst]; exact put_ok hdlt (rel_mono hle htm) hv
      rcases hrun with hrun | ⟨hrun, rfl⟩
      · exact wpIn_value hnd hrun goal
      · exact wpIn_skp hnd hrun goal

end
end Go.Dom

/-
  WHAT A STEP LOOKS AT; steps that have nothing to do with one another may be exchanged. Own work; generic over the program.
-/
set_option linter.all false
namespace Go.Dom
open Go.RowKit

def SX.ts : SX → List Nat
  | .t n => [n]
  | .c _ => []

def SX.tsO : Option SX → List Nat
  | none => []
  | some x => x.ts

/-- The slots that an operation reads. -/
def SO.ts : SO → List Nat
  | .mov x | .box x | .ld _ _ x | .un _ x | .cvi _ x | .cvs x | .b2s x | .s2b x | .fad _ x | .fld _ _ _ x | .ext x _ | .len x | .lenS x | .nck x | .mki _ x | .cvp _ x | .sld x | .clr _ x | .snl _ x => x.ts
  | .pick c a b => c.ts ++ a.ts ++ b.ts
  | .alloc _ _ | .lenA _ | .stop => []
  | .build _ ps => ps.flatMap fun p => p.2.2.ts
  | .bsl _ ps => ps.flatMap SX.ts
  | .st _ x y | .bin _ x y | .beq _ x y | .mks _ _ x y | .ixs _ x y | .ixa _ _ x y | .ixS x y | .ixV _ _ _ x y | .mm _ x y | .app _ _ _ x y | .cpy _ x y | .peq _ x y | .ust _ x y => x.ts ++ y.ts
  | .slS x lo hi => x.ts ++ SX.tsO lo ++ SX.tsO hi
  | .slL _ x lo hi mx => x.ts ++ SX.tsO lo ++ SX.tsO hi ++ SX.tsO mx
  | .slA _ _ x lo hi mx => x.ts ++ SX.tsO lo ++ SX.tsO hi ++ SX.tsO mx
  | .call f args => f.ts ++ args.flatMap SX.ts
  | .mkf _ a c => a.flatMap SX.ts ++ c.flatMap SX.ts

section
variable {P : Program} [Tabs P] {tf tf' : Nat → AV} {hf hf' : Nat → Option AObj}

theorem ev_congr {x : SX} (h : ∀ t ∈ x.ts, tf t = tf' t) : x.ev tf = x.ev tf' := by
  cases x with
  | t n => exact h n (by simp [SX.ts])
  | c v => rfl

theorem evO_congr {x : Option SX} (h : ∀ t ∈ SX.tsO x, tf t = tf' t) : x.map (SX.ev tf) = x.map (SX.ev tf') := by
  cases x with
  | none => rfl
  | some x => simp only [Option.map_some, ev_congr (x := x) h]

theorem evL_congr {l : List SX} (h : ∀ t ∈ l.flatMap SX.ts, tf t = tf' t) : l.map (SX.ev tf) = l.map (SX.ev tf') := by
  apply List.map_congr_left
  intro x hx
  exact ev_congr fun t ht => h t (List.mem_flatMap.2 ⟨x, hx, ht⟩)

theorem aop_tf {nm : Nat} {o : SO} (h : ∀ t ∈ o.ts, tf t = tf' t) : aop nm o tf hf = aop nm o tf' hf := by
  cases o <;> simp only [SO.ts, List.mem_append] at h
  case mov x => simp only [aop, ev_congr (x := x) h]
  case box x => simp only [aop, ev_congr (x := x) h]
  case ld x => simp only [aop, ev_congr (x := x) h]
  case un x => simp only [aop, ev_congr (x := x) h]
  case cvi x => simp only [aop, ev_congr (x := x) h]
  case cvs x => simp only [aop, ev_congr (x := x) h]
  case b2s x => simp only [aop, ev_congr (x := x) h]
  case s2b x => rfl
  case fad x => simp only [aop, ev_congr (x := x) h]
  case fld x => simp only [aop, ev_congr (x := x) h]
  case ext x k => simp only [aop, ev_congr (x := x) h]
  case len x => simp only [aop, ev_congr (x := x) h]
  case lenS x => simp only [aop, ev_congr (x := x) h]
  case nck x => simp only [aop, ev_congr (x := x) h]
  case mki x => simp only [aop, ev_congr (x := x) h]
  case pick c a b => simp only [aop, ev_congr (x := c) fun t ht => h t (.inl (.inl ht)), ev_congr (x := a) fun t ht => h t (.inl (.inr ht)), ev_congr (x := b) fun t ht => h t (.inr ht)]
  case alloc => rfl
  case lenA => rfl
  case build z ps =>
    have e : (ps.map fun p => (p.1, p.2.1, p.2.2.ev tf)) = ps.map fun p => (p.1, p.2.1, p.2.2.ev tf') := by
      apply List.map_congr_left
      intro p hp
      rw [ev_congr (x := p.2.2) fun t ht => h t (List.mem_flatMap.2 ⟨p, hp, ht⟩)]
    simp only [aop, e]
  case bsl z ps => simp only [aop, evL_congr h]
  case st z x y => simp only [aop, ev_congr (x := x) fun t ht => h t (.inl ht), ev_congr (x := y) fun t ht => h t (.inr ht)]
  case bin op x y => simp only [aop, ev_congr (x := x) fun t ht => h t (.inl ht), ev_congr (x := y) fun t ht => h t (.inr ht)]
  case beq ng x y => simp only [aop, ev_congr (x := x) fun t ht => h t (.inl ht), ev_congr (x := y) fun t ht => h t (.inr ht)]
  case mks z b x y => simp only [aop, ev_congr (x := x) fun t ht => h t (.inl ht), ev_congr (x := y) fun t ht => h t (.inr ht)]
  case ixs z x y => simp only [aop, ev_congr (x := x) fun t ht => h t (.inl ht), ev_congr (x := y) fun t ht => h t (.inr ht)]
  case ixa n z x y => simp only [aop, ev_congr (x := x) fun t ht => h t (.inl ht), ev_congr (x := y) fun t ht => h t (.inr ht)]
  case ixS x y => simp only [aop, ev_congr (x := x) fun t ht => h t (.inl ht), ev_congr (x := y) fun t ht => h t (.inr ht)]
  case ixV ag n z x y => simp only [aop, ev_congr (x := x) fun t ht => h t (.inl ht), ev_congr (x := y) fun t ht => h t (.inr ht)]
  case mm mx x y => simp only [aop, ev_congr (x := x) fun t ht => h t (.inl ht), ev_congr (x := y) fun t ht => h t (.inr ht)]
  case app e z b x y => simp only [aop, ev_congr (x := x) fun t ht => h t (.inl ht), ev_congr (x := y) fun t ht => h t (.inr ht)]
  case peq ng x y => simp only [aop, ev_congr (x := x) fun t ht => h t (.inl ht), ev_congr (x := y) fun t ht => h t (.inr ht)]
  case ust e x y => simp only [aop, ev_congr (x := x) fun t ht => h t (.inl ht), ev_congr (x := y) fun t ht => h t (.inr ht)]
  case cvp ok x => simp only [aop, ev_congr (x := x) h]
  case sld x => simp only [aop, ev_congr (x := x) h]
  case clr z x => simp only [aop, ev_congr (x := x) h]
  case snl ng x => simp only [aop, ev_congr (x := x) h]
  case stop => rfl
  case cpy z x y => simp only [aop, ev_congr (x := x) fun t ht => h t (.inl ht), ev_congr (x := y) fun t ht => h t (.inr ht)]
  case slS x lo hi => simp only [aop, ev_congr (x := x) fun t ht => h t (.inl (.inl ht)), evO_congr (x := lo) fun t ht => h t (.inl (.inr ht)), evO_congr (x := hi) fun t ht => h t (.inr ht)]
  case slL z x lo hi mx =>
    have em := evO_congr (x := mx) (tf := tf) (tf' := tf') fun t ht => h t (.inr ht)
    simp only [aop, ev_congr (x := x) fun t ht => h t (.inl (.inl (.inl ht))), evO_congr (x := lo) fun t ht => h t (.inl (.inl (.inr ht))), evO_congr (x := hi) fun t ht => h t (.inl (.inr ht))]
    cases mx with
    | none =>
      generalize x.ev tf' = xv
      cases xv with
      | v y => cases y <;> rfl
      | _ => rfl
    | some m =>
      simp only [Option.map_some, Option.some.injEq] at em
      generalize x.ev tf' = xv
      cases xv with
      | v y => cases y <;> first | rfl | simp only [em]
      | _ => rfl
  case slA n z x lo hi mx =>
    simp only [aop, ev_congr (x := x) fun t ht => h t (.inl (.inl (.inl ht))), evO_congr (x := lo) fun t ht => h t (.inl (.inl (.inr ht))), evO_congr (x := hi) fun t ht => h t (.inl (.inr ht))]
  case call f args => rfl
  case mkf f a c =>
    have e1 := evL_congr (l := a) (tf := tf) (tf' := tf') fun t ht => h t (.inl ht)
    have e2 := evL_congr (l := c) (tf := tf) (tf' := tf') fun t ht => h t (.inr ht)
    simp only [aop, e1, e2]

theorem src_hf {z : Nat} {y : AV} {ys : List AV} {k : Nat} {p : Prop} {r : List Nat} (hs : srcOf hf z y = some (ys, k, p, r)) (h : ∀ n ∈ r, hf' n = hf n) : srcOf hf' z y = some (ys, k, p, r) := by
  unfold srcOf at hs ⊢
  split at hs <;> try exact hs
  rename_i n ver o len z'
  cases hn : hf n with
  | none => simp [hn] at hs
  | some ob =>
    rw [hn] at hs
    simp only [Option.some.injEq, Prod.mk.injEq] at hs
    obtain ⟨rfl, rfl, rfl, rfl⟩ := hs
    have : hf' n = some ob := by rw [h n (by simp), hn]
    simp [this]

theorem aop_hf {nm : Nat} {o : SO} {ao : AO} (ha : aop nm o tf hf = some ao) (h : ∀ n ∈ ao.rs, hf' n = hf n) : aop nm o tf hf' = some ao := by
  cases o <;> simp only [aop] at ha ⊢ <;> try exact ha
  case ld ag z x =>
    unfold aLd at ha ⊢
    split at ha <;> try exact ha
    rename_i n ver o hx
    cases hn : hf n with
    | none => simp [hn] at ha
    | some ob =>
      rw [hn] at ha; simp only [Option.some.injEq] at ha; subst ha
      have : hf' n = some ob := by rw [h n (by simp), hn]
      simp [this]
  case clr z x =>
    split at ha <;> try exact ha
    rename_i n ver o len z' hx
    cases hn : hf n with
    | none => simp [hn] at ha
    | some ob =>
      rw [hn] at ha; simp only [Option.some.injEq] at ha; subst ha
      have : hf' n = some ob := by rw [h n (by simp), hn]
      simp [this]
  case st z x y =>
    split at ha <;> try exact ha
    rename_i n ver o hx
    cases hn : hf n with
    | none => simp [hn] at ha
    | some ob =>
      rw [hn] at ha; simp only [Option.some.injEq] at ha; subst ha
      have : hf' n = some ob := by rw [h n (by simp), hn]
      simp [this]
  case b2s x =>
    split at ha <;> try exact ha
    rename_i n ver o len z hx
    cases hn : hf n with
    | none => simp [hn] at ha
    | some ob =>
      rw [hn] at ha; simp only [Option.some.injEq] at ha; subst ha
      have : hf' n = some ob := by rw [h n (by simp), hn]
      simp [this]
  case slA n z x lo hi mx =>
    split at ha <;> try exact ha
    rename_i m ver o hx
    cases hn : hf m with
    | none => simp [hn] at ha
    | some ob =>
      rw [hn] at ha
      split at ha
      · rename_i ob' l hh p e1 e2
        injection e1 with e1; subst e1
        simp only [Option.some.injEq] at ha; subst ha
        have : hf' m = some ob := by rw [h m (by simp), hn]
        simp only [this]
        split
        · rename_i e3 e4; injection e3 with e3; subst e3; rw [e2] at e4; injection e4 with e4; injection e4 with e4 e5; injection e5 with e5 e6; subst e4; subst e5; subst e6; rfl
        · rename_i hne; exact absurd e2 (hne _ _ _ _ rfl)
      · cases ha
  case peq ng x y =>
    unfold aPeq at ha ⊢
    split at ha <;> try exact ha
    rename_i n ver o n' ver' o' h1 h2
    split at ha
    · rename_i hc
      rw [if_pos hc]
      cases hn : hf n with
      | none => simp [hn] at ha
      | some ob =>
        rw [hn] at ha; simp only [Option.some.injEq] at ha; subst ha
        have : hf' n = some ob := by rw [h n (by simp), hn]
        simp [this]
    · cases ha
  case cvp ok x =>
    unfold aCvp at ha ⊢
    split at ha <;> try exact ha
    rename_i n ver o h1
    cases hn : hf n with
    | none => simp [hn] at ha
    | some ob =>
      rw [hn] at ha
      simp only at ha
      split at ha
      · rename_i T hT
        simp only [Option.some.injEq] at ha; subst ha
        have : hf' n = some ob := by rw [h n (by simp), hn]
        simp [this, hT]
      · cases ha
  case ust e x y =>
    unfold aUst at ha ⊢
    split at ha <;> try exact ha
    rename_i n ver o len h1 h2
    cases hn : hf n with
    | none => simp [hn] at ha
    | some ob =>
      rw [hn] at ha; simp only [Option.some.injEq] at ha; subst ha
      have : hf' n = some ob := by rw [h n (by simp), hn]
      simp [this]
  case app e z b x y =>
    split at ha
    · rename_i ys k p r hs
      split at ha
      · rename_i hx
        by_cases hk : k = 0
        · rw [if_pos hk, Option.some.injEq] at ha; subst ha
          simp only [src_hf hs h]; simp [hx, hk]
        · rw [if_neg hk, Option.some.injEq] at ha; subst ha
          simp only [src_hf hs h]; simp [hx, hk]
      · rename_i l hx
        by_cases hk : k = 0
        · rw [if_pos hk, Option.some.injEq] at ha; subst ha
          simp only [src_hf hs h]; simp [hx, hk]
        · rw [if_neg hk, Option.some.injEq] at ha; subst ha
          simp only [src_hf hs h]; simp [hx, hk]
      · rename_i n ver o len z' hx
        cases hn : hf n with
        | none => simp [hn] at ha
        | some ob =>
          rw [hn] at ha; simp only [Option.some.injEq] at ha; subst ha
          have : hf' n = some ob := by rw [h n (by simp), hn]
          simp only [src_hf hs fun m hm => h m (by simp [hm])]; simp [hx, this]
      · cases ha
    · cases ha
  case cpy z x y =>
    split at ha
    · rename_i ys k p r n ver o len z' hs hx
      cases hn : hf n with
      | none => simp [hn] at ha
      | some ob =>
        rw [hn] at ha; simp only [Option.some.injEq] at ha; subst ha
        have : hf' n = some ob := by rw [h n (by simp), hn]
        simp only [src_hf hs fun m hm => h m (by simp [hm])]; simp [hx, this]
    · cases ha

theorem acall_hf {nm : Nat} {fv : AV} {as : List AV} {ao : AO} (ha : ACall P nm hf fv as ao) (h : ∀ n ∈ ao.rs, hf' n = hf n) : ACall P nm hf' fv as ao := by
  cases ha with
  | pure f avs pvs r hfv hargs he => exact .pure f avs pvs r hfv hargs he
  | view f avs pvs r hfv hargs hr he =>
    have hl : ∀ x ∈ avs, Dom.view hf' 9 x = Dom.view hf 9 x ∧ viewN hf' 9 x = viewN hf 9 x := fun x hx => view_hf 9 x fun n hn => h n (List.mem_flatMap.2 ⟨x, hx, hn⟩)
    have := ACall.view (nm := nm) f avs pvs r hfv (by rw [mapO_congr fun x hx => (hl x hx).1]; exact hargs) hr he (hf := hf')
    rw [flatMap_congr' fun x hx => (hl x hx).2] at this
    exact this
  | give f avs pvs r hfv hargs hlo he =>
    have hl : ∀ x ∈ avs, Dom.view hf' 9 x = Dom.view hf 9 x ∧ viewN hf' 9 x = viewN hf 9 x := fun x hx => view_hf 9 x fun n hn => h n (List.mem_flatMap.2 ⟨x, hx, hn⟩)
    have e2 := flatMap_congr' fun x hx => (hl x hx).2
    have := ACall.give (nm := nm) f avs pvs r hfv (by rw [mapO_congr fun x hx => (hl x hx).1]; exact hargs) (by rw [e2]; exact hlo) he (hf := hf')
    rw [e2] at this
    exact this
  | eff f avs hs v up hfv hhs he =>
    exact .eff f avs hs v up hfv (fun p hp => by rw [h p.1 (List.mem_map.2 ⟨p, hp, rfl⟩)]; exact hhs p hp) he
  | same f v hfv he => exact .same f v hfv he
  | ext f avs pvs r hfv hargs he => exact .ext f avs pvs r hfv hargs he

theorem opR_congr {nm : Nat} {o : SO} {ao : AO} (ht : ∀ t ∈ o.ts, tf t = tf' t) (hr : ∀ n ∈ ao.rs, hf' n = hf n) (h : OpR P nm o tf hf ao) : OpR P nm o tf' hf' ao := by
  unfold OpR at h ⊢
  split at h
  · rename_i f args
    simp only [SO.ts, List.mem_append] at ht
    have e1 := ev_congr (x := f) (tf := tf) (tf' := tf') fun t h => ht t (.inl h)
    have e2 := evL_congr (l := args) (tf := tf) (tf' := tf') fun t h => ht t (.inr h)
    simp only [← e1, ← e2]
    exact acall_hf h hr
  · rename_i hne
    obtain ⟨h1, h2⟩ := h
    have h3 : aop nm o tf' hf' = some ao ∧ ao.pre := ⟨aop_hf (by rw [← aop_tf ht]; exact h1) hr, h2⟩
    cases o <;> first | exact h3 | exact absurd rfl (hne _ _)

end
end Go.Dom

/-
  REGIONS THAT DRAW THEIR ORDER: every order gives what the order of the text gives, where operations that are not ordered have nothing to do with one another. Own work; generic over the program.
-/
set_option linter.all false
namespace Go.Dom
open Go.RowKit

def lookU : List (Nat × Option AObj) → Nat → Option (Option AObj)
  | [], _ => none
  | (m, x) :: r, n => match lookU r n with
    | some y => some y
    | none => if n = m then some x else none

theorem updF_look (u : List (Nat × Option AObj)) : ∀ (hf : Nat → Option AObj) (n : Nat), updF hf u n = (lookU u n).getD (hf n) := by
  induction u with
  | nil => intro hf n; rfl
  | cons p u ih =>
    obtain ⟨m, x⟩ := p
    intro hf n
    simp only [updF, ih, lookU]
    cases lookU u n with
    | some y => rfl
    | none => by_cases e : n = m <;> simp [e]

theorem lookU_mem {u : List (Nat × Option AObj)} {n : Nat} (h : lookU u n ≠ none) : n ∈ u.map (·.1) := by
  induction u with
  | nil => simp [lookU] at h
  | cons p u ih =>
    obtain ⟨m, x⟩ := p
    by_cases hl : lookU u n = none
    · simp only [lookU, hl] at h
      by_cases e : n = m
      · simp [e]
      · simp [e] at h
    · exact List.mem_cons_of_mem _ (ih hl)

theorem updF_other {u : List (Nat × Option AObj)} {hf : Nat → Option AObj} {n : Nat} (h : n ∉ u.map (·.1)) : updF hf u n = hf n := by
  rw [updF_look]
  cases hl : lookU u n with
  | none => rfl
  | some y => exact absurd (lookU_mem (by rw [hl]; simp)) h

theorem updF_comm {u v : List (Nat × Option AObj)} (hf : Nat → Option AObj) (h : ∀ n ∈ u.map (·.1), n ∉ v.map (·.1)) : updF (updF hf u) v = updF (updF hf v) u := by
  funext n
  rw [updF_look v, updF_look u, updF_look u, updF_look v]
  cases hu : lookU u n with
  | none => simp
  | some y =>
    have hm := lookU_mem (u := u) (n := n) (by rw [hu]; simp)
    cases hv : lookU v n with
    | none => simp
    | some z => exact absurd (lookU_mem (u := v) (n := n) (by rw [hv]; simp)) (h n hm)

theorem putF_comm (tf : Nat → AV) {d e : Option Nat} (x y : AV) (h : ∀ k, d = some k → e ≠ some k) : putF (putF tf d x) e y = putF (putF tf e y) d x := by
  cases d with
  | none => rfl
  | some d =>
    cases e with
    | none => rfl
    | some e =>
      have hne : d ≠ e := fun he => h d rfl (by rw [he])
      funext k
      simp only [putF]
      by_cases h1 : k = d <;> by_cases h2 : k = e
      · exact absurd (h1.symm.trans h2) hne
      · subst h1; simp [h2]
      · subst h2; simp [h1]
      · simp [h1, h2]

theorem putF_other {tf : Nat → AV} {d : Option Nat} {x : AV} {t : Nat} (h : d ≠ some t) : putF tf d x t = tf t := by
  cases d with
  | none => rfl
  | some d =>
    have : t ≠ d := fun e => h (by rw [e])
    simp [putF, this]

/-- The slots that an operation in its place looks at. -/
def SOp.looks (x : SOp) : List Nat := x.o.ts ++ (match x.g with | some (t, _) => [t] | none => [])

def apartT (x y : SOp) : Bool :=
  (match x.d with
   | some d => !(y.looks.contains d) && y.d != some d
   | none => true) &&
  (match y.d with
   | some d => !(x.looks.contains d)
   | none => true)

def apartN (r1 w1 r2 w2 : List Nat) : Bool := w1.all (fun n => !r2.contains n && !w2.contains n) && w2.all (fun n => !r1.contains n)

/-- What a step gives. -/
def Fires (P : Program) [Tabs P] (nm : Nat) (so : SOp) (tf : Nat → AV) (hf : Nat → Option AObj) (v : AV) (up : List (Nat × Option AObj)) (rs : List Nat) : Prop :=
  (gdF so.g tf = some false ∧ v = .v (.tup []) ∧ up = [] ∧ rs = []) ∨
  (gdF so.g tf = some true ∧ ∃ ao, OpR P nm so.o tf hf ao ∧ v = ao.v ∧ up = ao.up ∧ rs = ao.rs)

section
variable {P : Program} [Tabs P] {tf tf' : Nat → AV} {hf hf' : Nat → Option AObj}

theorem FStep.iff {nx k : Nat} {so : SOp} {rs ws : List Nat} : FStep P nx k so tf hf tf' hf' rs ws ↔ ∃ v up, Fires P (nx + k) so tf hf v up rs ∧ tf' = putF tf so.d v ∧ hf' = updF hf up ∧ ws = up.map (·.1) := by
  constructor
  · rintro (⟨h1, h2, h3, h4, h5⟩ | ⟨h1, ao, h2, h3, h4, h5, h6⟩)
    · exact ⟨_, [], .inl ⟨h1, rfl, rfl, h4⟩, h2, h3, h5⟩
    · exact ⟨ao.v, ao.up, .inr ⟨h1, ao, h2, rfl, rfl, h5⟩, h3, h4, h6⟩
  · rintro ⟨v, up, ⟨h1, rfl, rfl, h4⟩ | ⟨h1, ao, h2, rfl, rfl, h5⟩, h3, h6, h7⟩
    · exact .inl ⟨h1, h3, h6, h4, h7⟩
    · exact .inr ⟨h1, ao, h2, h3, h6, h5, h7⟩

theorem gd_congr {g : Option (Nat × Bool)} (h : ∀ p, g = some p → tf p.1 = tf' p.1) : gdF g tf = gdF g tf' := by
  cases g with
  | none => rfl
  | some p => obtain ⟨t, w⟩ := p; simp only [gdF, h _ rfl]

theorem Fires.congr {nm : Nat} {so : SOp} {v : AV} {up : List (Nat × Option AObj)} {rs : List Nat} (h : Fires P nm so tf hf v up rs) (ht : ∀ t ∈ so.looks, tf t = tf' t) (hr : ∀ n ∈ rs, hf' n = hf n) : Fires P nm so tf' hf' v up rs := by
  have hg : gdF so.g tf = gdF so.g tf' := gd_congr fun p hp => ht p.1 (by simp [SOp.looks, hp])
  have hts : ∀ t ∈ so.o.ts, tf t = tf' t := fun t h => ht t (by simp [SOp.looks, h])
  rcases h with ⟨h1, h2, h3, h4⟩ | ⟨h1, ao, h2, h3, h4, rfl⟩
  · exact .inl ⟨by rw [← hg]; exact h1, h2, h3, h4⟩
  · exact .inr ⟨by rw [← hg]; exact h1, ao, opR_congr hts hr h2, h3, h4, rfl⟩

theorem FStep.swap {nx i j : Nat} {x y : SOp} {tf1 tf2 : Nat → AV} {hf1 hf2 : Nat → Option AObj} {r1 w1 r2 w2 : List Nat} (hx : FStep P nx i x tf hf tf1 hf1 r1 w1) (hy : FStep P nx j y tf1 hf1 tf2 hf2 r2 w2)
    (ht : apartT x y = true) (hn : apartN r1 w1 r2 w2 = true) : ∃ tf1' hf1', FStep P nx j y tf hf tf1' hf1' r2 w2 ∧ FStep P nx i x tf1' hf1' tf2 hf2 r1 w1 := by
  obtain ⟨v1, u1, f1, rfl, rfl, rfl⟩ := FStep.iff.1 hx
  obtain ⟨v2, u2, f2, rfl, rfl, rfl⟩ := FStep.iff.1 hy
  simp only [apartT, Bool.and_eq_true] at ht
  obtain ⟨t1, t2⟩ := ht
  have a1 : ∀ d, x.d = some d → d ∉ y.looks ∧ y.d ≠ some d := by
    intro d hd; rw [hd] at t1; simp at t1; exact ⟨t1.1, t1.2⟩
  have a2 : ∀ d, y.d = some d → d ∉ x.looks := by
    intro d hd; rw [hd] at t2; simp at t2; exact t2
  simp only [apartN, Bool.and_eq_true, List.all_eq_true] at hn
  obtain ⟨n1, n2⟩ := hn
  have b1 : ∀ n ∈ u1.map (·.1), n ∉ r2 ∧ n ∉ u2.map (·.1) := by
    intro n hn; have := n1 n hn
    simp only [Bool.and_eq_true, Bool.not_eq_true', List.contains_eq_mem, decide_eq_false_iff_not] at this
    exact this
  have b2 : ∀ n ∈ u2.map (·.1), n ∉ r1 := by
    intro n hn; have := n2 n hn
    simp only [Bool.not_eq_true', List.contains_eq_mem, decide_eq_false_iff_not] at this
    exact this
  have f2' : Fires P (nx + j) y tf hf v2 u2 r2 := f2.congr (fun t ht => putF_other fun hd => (a1 t hd).1 ht) (fun n hn => (updF_other fun hm => (b1 n hm).1 hn).symm)
  have f1' : Fires P (nx + i) x (putF tf y.d v2) (updF hf u2) v1 u1 r1 := f1.congr (fun t ht => (putF_other fun hd => a2 t hd ht).symm) (fun n hn => updF_other fun hm => b2 n hm hn)
  refine ⟨putF tf y.d v2, updF hf u2, FStep.iff.2 ⟨v2, u2, f2', rfl, rfl, rfl⟩, FStep.iff.2 ⟨v1, u1, f1', ?_, ?_, rfl⟩⟩
  · rw [putF_comm]; intro k hk; exact (a1 k hk).2
  · rw [updF_comm]; intro n hn; exact (b1 n hn).2

/-- Steps in a row, with what they touch. -/
inductive FRun (P : Program) [Tabs P] (nx : Nat) (sops : List SOp) : List Nat → (Nat → AV) → (Nat → Option AObj) → (Nat → AV) → (Nat → Option AObj) → List (List Nat × List Nat) → Prop where
  | nil (tf : Nat → AV) (hf : Nat → Option AObj) : FRun P nx sops [] tf hf tf hf []
  | cons {k : Nat} {R : List Nat} {so : SOp} {tf tf1 tf2 : Nat → AV} {hf hf1 hf2 : Nat → Option AObj} {rs ws : List Nat} {tr : List (List Nat × List Nat)}
      (hs : sops[k]? = some so) (h : FStep P nx k so tf hf tf1 hf1 rs ws) (r : FRun P nx sops R tf1 hf1 tf2 hf2 tr) : FRun P nx sops (k :: R) tf hf tf2 hf2 ((rs, ws) :: tr)

/-- Two steps may be exchanged, or the first stands before the second. -/
def may (bf : List Nat) (sops : List SOp) (i j : Nat) (t u : List Nat × List Nat) : Prop :=
  (bf.getD j 0).testBit i = true ∨ (apartN t.1 t.2 u.1 u.2 = true ∧ ∀ x y, sops[i]? = some x → sops[j]? = some y → apartT x y = true)

def IndL (bf : List Nat) (sops : List SOp) : List Nat → List (List Nat × List Nat) → Prop
  | i :: R, t :: tr => (∀ (p : Nat) (j : Nat) (u : List Nat × List Nat), R[p]? = some j → tr[p]? = some u → may bf sops i j t u) ∧ IndL bf sops R tr
  | _, _ => True

theorem FRun.front {nx : Nat} {sops : List SOp} {bf : List Nat} : ∀ {R : List Nat} {tf tf2 : Nat → AV} {hf hf2 : Nat → Option AObj} {tr : List (List Nat × List Nat)}, FRun P nx sops R tf hf tf2 hf2 tr → IndL bf sops R tr → R.Nodup →
    ∀ {i : Nat}, i ∈ R → (∀ a ∈ R, a ≠ i → (bf.getD i 0).testBit a = false) →
    ∃ so tf1 hf1 rs ws tr', sops[i]? = some so ∧ FStep P nx i so tf hf tf1 hf1 rs ws ∧ FRun P nx sops (R.erase i) tf1 hf1 tf2 hf2 tr' ∧ IndL bf sops (R.erase i) tr' ∧
      (∀ (a : Nat) (t : List Nat × List Nat), may bf sops a i t (rs, ws) → (∀ (p j : Nat) (u : List Nat × List Nat), R[p]? = some j → tr[p]? = some u → may bf sops a j t u) → ∀ (p j : Nat) (u : List Nat × List Nat), (R.erase i)[p]? = some j → tr'[p]? = some u → may bf sops a j t u) ∧
      (∃ p : Nat, R[p]? = some i ∧ tr[p]? = some (rs, ws)) := by
  intro R tf tf2 hf hf2 tr hrun
  induction hrun with
  | nil => intro _ _ i hi; simp at hi
  | cons hs h r ih =>
    rename_i k R so tf tf1 tf2 hf hf1 hf2 rs ws tr
    intro hind hnd i hi hbf
    by_cases e : k = i
    · subst e
      refine ⟨so, tf1, hf1, rs, ws, tr, hs, h, by simpa using r, by simpa using hind.2, ?_, ⟨0, rfl, rfl⟩⟩
      intro a t _ hm p j u hp hu
      rw [List.erase_cons_head] at hp
      exact hm (p + 1) j u (by simpa using hp) (by simpa using hu)
    · have hi' : i ∈ R := by rcases List.mem_cons.1 hi with rfl | h; exact absurd rfl e; exact h
      obtain ⟨hnk, hnd'⟩ := List.nodup_cons.1 hnd
      obtain ⟨so', tf1', hf1', rs', ws', tr', g1, g2, g3, g4, g5, p0, g6, g7⟩ := ih hind.2 hnd' hi' fun a ha hne => hbf a (List.mem_cons_of_mem _ ha) hne
      have hki : may bf sops k i (rs, ws) (rs', ws') := hind.1 p0 i _ g6 g7
      have hnb : (bf.getD i 0).testBit k = false := hbf k (by simp) e
      rcases hki with hki | ⟨hn, ht⟩
      · rw [hnb] at hki; cases hki
      · obtain ⟨tfa, hfa, s1, s2⟩ := FStep.swap h g2 (ht so so' hs g1) hn
        refine ⟨so', tfa, hfa, rs', ws', (rs, ws) :: tr', g1, s1, ?_, ?_, ?_, ⟨p0 + 1, by simpa using g6, by simpa using g7⟩⟩
        · rw [List.erase_cons_tail (by simpa using e)]
          exact .cons hs s2 g3
        · rw [List.erase_cons_tail (by simpa using e)]
          exact ⟨g5 k (rs, ws) (.inr ⟨hn, ht⟩) hind.1, g4⟩
        · intro a t hai hm p j u hp hu
          rw [List.erase_cons_tail (by simpa using e)] at hp
          cases p with
          | zero => exact hm 0 j u (by simpa using hp) (by simpa using hu)
          | succ p => exact g5 a t hai (fun p j u hp hu => hm (p + 1) j u (by simpa using hp) (by simpa using hu)) p j u (by simpa using hp) (by simpa using hu)

end
end Go.Dom

/-
  A REGION IN THE MODEL, in whatever order it draws. Own work; generic over the program.
-/
set_option linter.all false
namespace Go.Dom
open Go.RowKit

/-- What stands before an operation, as bits: one step. -/
def bits1 (bf : List Nat) (o : Oper) : Nat := o.after.toList.foldl (fun s e => if Region.binds .any e then s ||| 2 ^ e.on ||| bf.getD e.on 0 else s) 0

def okBf (ops : Array Oper) (bf : List Nat) : Bool :=
  (List.range ops.size).all fun j => match ops[j]? with
    | none => false
    | some o => bf.getD j 0 == bits1 bf o && o.after.toList.all fun e => !Region.binds .any e || decide (e.on < j)

theorem fold_bits (bf : List Nat) (i : Nat) : ∀ (l : List Edge) (s : Nat), (l.foldl (fun s e => if Region.binds .any e then s ||| 2 ^ e.on ||| bf.getD e.on 0 else s) s).testBit i = true →
    s.testBit i = true ∨ ∃ e ∈ l, Region.binds .any e = true ∧ (e.on = i ∨ (bf.getD e.on 0).testBit i = true) := by
  intro l
  induction l with
  | nil => intro s h; exact .inl h
  | cons e l ih =>
    intro s h
    rw [List.foldl_cons] at h
    rcases ih _ h with h | ⟨e', he', h1, h2⟩
    · by_cases hb : Region.binds .any e = true
      · rw [if_pos hb, Nat.testBit_or, Nat.testBit_or, Bool.or_eq_true, Bool.or_eq_true] at h
        rcases h with (h | h) | h
        · exact .inl h
        · refine .inr ⟨e, by simp, hb, .inl ?_⟩
          rw [Nat.testBit_two_pow] at h
          simpa using h
        · exact .inr ⟨e, by simp, hb, .inr h⟩
      · rw [if_neg hb] at h; exact .inl h
    · exact .inr ⟨e', by simp [he'], h1, h2⟩

theorem okBf_spec {ops : Array Oper} {bf : List Nat} (h : okBf ops bf = true) {j : Nat} {o : Oper} (ho : ops[j]? = some o) :
    (∀ i, (bf.getD j 0).testBit i = true → ∃ e ∈ o.after.toList, Region.binds .any e = true ∧ (e.on = i ∨ (bf.getD e.on 0).testBit i = true)) ∧ ∀ e ∈ o.after.toList, Region.binds .any e = true → e.on < j := by
  have hj : j < ops.size := (Array.getElem?_eq_some_iff.1 ho).1
  simp only [okBf, List.all_eq_true, List.mem_range] at h
  have := h j hj
  rw [ho] at this
  simp only [Bool.and_eq_true, beq_iff_eq, List.all_eq_true] at this
  obtain ⟨h1, h2⟩ := this
  constructor
  · intro i hi
    rw [h1] at hi
    rcases fold_bits bf i _ 0 hi with h | h
    · simp at h
    · exact h
  · intro e he hb
    have := h2 e he
    simpa [hb] using this

section
variable {P : Program} [Tabs P] {E : Env P} {ops : Array Oper} {sops : List SOp} {bf : List Nat} {Q : Exit → Act → World → Prop}

theorem SR.al_congr {al al' : Nat → Prop} {tf : Nat → AV} {hf : Nat → Option AObj} {a : Act} {w : World} (h : SR E al tf hf a w) (he : ∀ n, al n ↔ al' n) : SR E al' tf hf a w := by
  obtain ⟨C, h1, h2⟩ := h
  exact ⟨C, fun n => (h1 n).trans (he n), h2⟩

theorem SR.drew {al : Nat → Prop} {tf : Nat → AV} {hf : Nat → Option AObj} {a : Act} {w : World} (h : SR E al tf hf a w) : SR E al tf hf a w.drew := by
  obtain ⟨C, h1, h2, h3, h4, h5⟩ := h
  exact ⟨C, h1, h2.world fun _ _ => rfl, h3, ⟨h4.1.trans (Wf.drew _ _), h4.2⟩, h5⟩

theorem bits_listed (hbf : okBf ops bf = true) (L : Nat → Prop) (hcl : ∀ (j : Nat) (o : Oper), ops[j]? = some o → L j → ∀ e ∈ o.after.toList, Region.binds .any e = true → L e.on) :
    ∀ (j : Nat) (o : Oper), ops[j]? = some o → (∀ e ∈ o.after.toList, Region.binds .any e = true → L e.on) → ∀ i, (bf.getD j 0).testBit i = true → L i := by
  intro j
  induction j using Nat.strongRecOn with
  | _ j ih =>
    intro o ho haft i hi
    obtain ⟨h1, h2⟩ := okBf_spec hbf ho
    obtain ⟨e, he, hb, hc⟩ := h1 i hi
    have hLe := haft e he hb
    rcases hc with rfl | hc
    · exact hLe
    · have hlt := h2 e he hb
      have hj : j < ops.size := (Array.getElem?_eq_some_iff.1 ho).1
      have hoe : ops[e.on]? = some ops[e.on] := by simp [show e.on < ops.size by omega]
      exact ih e.on hlt _ hoe (hcl _ _ hoe hLe) i hc

theorem wpAny_run (hwr : ∀ b, E.fr ≤ b → E.wr b) (hlen : sops.length = ops.size) (hok : ∀ (k : Nat) (o : Oper) (so : SOp), ops[k]? = some o → sops[k]? = some so → OpC P E.nt ops o so) (hbf : okBf ops bf = true) {nx : Nat} {al : Nat → Prop} (hal : ∀ k, k < ops.size → ¬ al (nx + k))
    {tf2 : Nat → AV} {hf2 : Nat → Option AObj} (hQ : ∀ a' w', SR E (fun n => al n ∨ ∃ k, k < ops.size ∧ n = nx + k) tf2 hf2 a' w' → Q .normal a' w') :
    ∀ (fuel : Nat) (listed : Array Bool) (R : List Nat) (tf : Nat → AV) (hf : Nat → Option AObj) (tr : List (List Nat × List Nat)) (a : Act) (w : World),
      listed.size = ops.size → R.Pairwise (· < ·) → (∀ k, k ∈ R ↔ k < ops.size ∧ listed.getD k true = false) → fuel = R.length →
      (∀ (j : Nat) (o : Oper), ops[j]? = some o → listed.getD j true = true → ∀ e ∈ o.after.toList, Region.binds .any e = true → listed.getD e.on true = true) →
      FRun P nx sops R tf hf tf2 hf2 tr → IndL bf sops R tr → SR E (fun n => al n ∨ ∃ k, k < ops.size ∧ listed.getD k true = true ∧ n = nx + k) tf hf a w → wpAnyIn (FR E.ro) 0 P .any ops Q fuel listed a w := by
  have hready : ∀ (listed : Array Bool) (i : Nat), i ∈ Region.ready .any ops listed ↔ i < ops.size ∧ listed.getD i true = false ∧ ∀ o, ops[i]? = some o → ∀ e ∈ o.after.toList, Region.binds .any e = true → listed.getD e.on false = true := by
    intro listed i
    simp only [Region.ready, List.mem_filter, List.mem_range, Bool.and_eq_true, Bool.not_eq_true']
    constructor
    · rintro ⟨h1, h2, h3⟩
      refine ⟨h1, h2, fun o ho e he hb => ?_⟩
      rw [ho] at h3
      simp only [Option.map_some, Option.getD_some, Array.all_eq_true'] at h3
      have := h3 e (by simpa using he)
      simpa [hb] using this
    · rintro ⟨h1, h2, h3⟩
      refine ⟨h1, h2, ?_⟩
      have ho : ops[i]? = some ops[i] := by simp [h1]
      rw [ho]
      simp only [Option.map_some, Option.getD_some, Array.all_eq_true']
      intro e he
      by_cases hb : Region.binds .any e = true
      · simp [h3 _ ho e (by simpa using he) hb]
      · simp [hb]
  have hgd : ∀ (listed : Array Bool), listed.size = ops.size → ∀ k, k < ops.size → listed.getD k true = listed.getD k false := by
    intro listed hs k hk
    simp [Array.getD_eq_getD_getElem?, show k < listed.size by omega]
  intro fuel
  induction fuel with
  | zero =>
    intro listed R tf hf tr a w hsz hpw hR hfu hcl hrun hind hsr
    have hnil : R = [] := List.eq_nil_of_length_eq_zero hfu.symm
    subst hnil
    cases hrun
    refine ⟨?_, hQ _ _ (hsr.al_congr fun n => ?_)⟩
    · apply List.eq_nil_iff_forall_not_mem.2
      intro i hi
      obtain ⟨h1, h2, -⟩ := (hready listed i).1 hi
      have := (hR i).2 ⟨h1, h2⟩
      simp at this
    · constructor
      · rintro (h | ⟨k, h1, h2, h3⟩)
        · exact .inl h
        · exact .inr ⟨k, h1, h3⟩
      · rintro (h | ⟨k, h1, h3⟩)
        · exact .inl h
        · refine .inr ⟨k, h1, ?_, h3⟩
          cases hl : listed.getD k true with
          | true => rfl
          | false => have := (hR k).2 ⟨h1, hl⟩; simp at this
  | succ fuel ih =>
    intro listed R tf hf tr a w hsz hpw hR hfu hcl hrun hind hsr
    constructor
    · intro hno
      exfalso
      cases R with
      | nil => simp at hfu
      | cons i0 R0 =>
        obtain ⟨hp1, hp2⟩ := List.pairwise_cons.1 hpw
        obtain ⟨hi1, hi2⟩ := (hR i0).1 (by simp)
        have hi0 : i0 ∈ Region.ready .any ops listed := by
          refine (hready listed i0).2 ⟨hi1, hi2, fun o ho e he hb => ?_⟩
          have hlt := (okBf_spec hbf ho).2 e he hb
          have hes : e.on < ops.size := by omega
          rw [← hgd listed hsz _ hes]
          cases hl : listed.getD e.on true with
          | true => rfl
          | false =>
            have := (hR e.on).2 ⟨hes, hl⟩
            rcases List.mem_cons.1 this with h | h
            · omega
            · have := hp1 _ h; omega
        rw [hno] at hi0; simp at hi0
    · intro i hi
      obtain ⟨hi1, hi2, hi3⟩ := (hready listed i).1 hi
      have hiR : i ∈ R := (hR i).2 ⟨hi1, hi2⟩
      have ho : ops[i]? = some ops[i] := by simp [hi1]
      have haft : ∀ e ∈ (ops[i]).after.toList, Region.binds .any e = true → listed.getD e.on true = true := by
        intro e he hb
        have hlt := (okBf_spec hbf ho).2 e he hb
        rw [hgd listed hsz _ (by omega)]
        exact hi3 _ ho e he hb
      have hnobit : ∀ b ∈ R, b ≠ i → (bf.getD i 0).testBit b = false := by
        intro b hb _
        cases ht : (bf.getD i 0).testBit b with
        | false => rfl
        | true =>
          have := bits_listed hbf (fun k => listed.getD k true = true) hcl i _ ho haft b ht
          have h2 := ((hR b).1 hb).2
          rw [this] at h2; cases h2
      have hnd : R.Nodup := hpw.imp (fun h => Nat.ne_of_lt h)
      obtain ⟨so, tf1, hf1, rs, ws, tr', g1, g2, g3, g4, -, -⟩ := hrun.front hind hnd hiR hnobit
      have hnm : ¬ (al (nx + i) ∨ ∃ k, k < ops.size ∧ listed.getD k true = true ∧ nx + i = nx + k) := by
        rintro (h | ⟨k, -, h2, h3⟩)
        · exact hal i hi1 h
        · have : k = i := by omega
          subst this; rw [hi2] at h2; cases h2
      have hset : ∀ k, (listed.setIfInBounds i true).getD k true = if k = i then true else listed.getD k true := by
        intro k
        by_cases e : k = i
        · subst e; simp [Array.getD_eq_getD_getElem?, show k < listed.size by omega]
        · rw [if_neg e]
          simp [Array.getD_eq_getD_getElem?, Array.getElem?_setIfInBounds_ne (Ne.symm e)]
      unfold wpOpIn
      rw [ho]
      refine step_sim (hok i _ so ho g1) hwr g2 hsr hnm fun a' w' hsr' => ?_
      refine ih (listed.setIfInBounds i true) (R.erase i) tf1 hf1 tr' a' w' (by simpa using hsz) (hpw.sublist (List.erase_sublist)) ?_ ?_ ?_ g3 g4 (hsr'.al_congr fun n => ?_)
      · intro k
        rw [hnd.mem_erase_iff, hR, hset]
        by_cases e : k = i
        · subst e; simp
        · simp [e]
      · rw [List.length_erase_of_mem hiR]; omega
      · intro j o' hj hlj e he hb
        rw [hset] at hlj ⊢
        by_cases ee : e.on = i
        · rw [if_pos ee]
        · rw [if_neg ee]
          by_cases ej : j = i
          · subst ej
            rw [ho] at hj; injection hj with hj; subst hj
            exact haft e he hb
          · rw [if_neg ej] at hlj
            exact hcl j o' hj hlj e he hb
      · constructor
        · rintro ((h | ⟨k, h1, h2, h3⟩) | rfl)
          · exact .inl h
          · refine .inr ⟨k, h1, ?_, h3⟩
            rw [hset]; split <;> simp [h2]
          · exact .inr ⟨i, hi1, by rw [hset]; simp, rfl⟩
        · rintro (h | ⟨k, h1, h2, h3⟩)
          · exact .inl (.inl h)
          · rw [hset] at h2
            by_cases e : k = i
            · subst e; exact .inr h3
            · rw [if_neg e] at h2; exact .inl (.inr ⟨k, h1, h2, h3⟩)

/-- A region that draws its order. -/
theorem wp_reg_draw (hm : P.follows .mixedOrders = true) (hwr : ∀ b, E.fr ≤ b → E.wr b) (hlen : sops.length = ops.size) (hok : ∀ (k : Nat) (o : Oper) (so : SOp), ops[k]? = some o → sops[k]? = some so → OpC P E.nt ops o so) (hbf : okBf ops bf = true) {nx id : Nat} {al : Nat → Prop} (hal : ∀ k, k < ops.size → ¬ al (nx + k))
    {tf tf2 : Nat → AV} {hf hf2 : Nat → Option AObj} {tr : List (List Nat × List Nat)} {a : Act} {w : World} (hrun : FRun P nx sops (List.range ops.size) tf hf tf2 hf2 tr) (hind : IndL bf sops (List.range ops.size) tr) (hsr : SR E al tf hf a w)
    (hQ : ∀ a' w', SR E (fun n => al n ∨ ∃ k, k < ops.size ∧ n = nx + k) tf2 hf2 a' w' → Q .normal a' w') : (Code.region id ops true).wpIn (FR E.ro) 0 P Q a w := by
  refine wpIn_region_any hm ?_
  have hrep : ∀ k, k < ops.size → (Array.replicate ops.size false).getD k true = false := by
    intro k hk; simp [Array.getD_eq_getD_getElem?, hk]
  refine wpAny_run hwr hlen hok hbf hal hQ ops.size _ (List.range ops.size) tf hf tr a _ (by simp) List.pairwise_lt_range ?_ (by simp) ?_ hrun hind ?_
  · intro k
    rw [List.mem_range]
    exact ⟨fun h => ⟨h, hrep k h⟩, fun h => h.1⟩
  · intro j o ho hl
    have hj : j < ops.size := (Array.getElem?_eq_some_iff.1 ho).1
    rw [hrep j hj] at hl; cases hl
  · refine hsr.drew.al_congr fun n => ⟨.inl, ?_⟩
    rintro (h | ⟨k, h1, h2, -⟩)
    · exact h
    · rw [hrep k h1] at h2; cases h2

/-- A region in the order of the text. -/
theorem wp_ops_text (hwr : ∀ b, E.fr ≤ b → E.wr b) (hok : ∀ (k : Nat) (o : Oper) (so : SOp), ops[k]? = some o → sops[k]? = some so → OpC P E.nt ops o so) {nx : Nat} :
    ∀ {R : List Nat} {tf tf2 : Nat → AV} {hf hf2 : Nat → Option AObj} {tr : List (List Nat × List Nat)}, FRun P nx sops R tf hf tf2 hf2 tr → ∀ {al : Nat → Prop} {a : Act} {w : World}, (∀ k ∈ R, k < ops.size) → R.Nodup → (∀ k ∈ R, ¬ al (nx + k)) → SR E al tf hf a w →
    (∀ a' w', SR E (fun n => al n ∨ ∃ k ∈ R, n = nx + k) tf2 hf2 a' w' → Q .normal a' w') → wpOpsIn (FR E.ro) 0 P ops Q R a w := by
  intro R tf tf2 hf hf2 tr hrun
  induction hrun with
  | nil => intro al a w _ _ _ hsr hQ; exact hQ a w (hsr.al_congr fun n => ⟨.inl, fun h => by rcases h with h | ⟨k, hk, -⟩; exact h; simp at hk⟩)
  | cons hs h r ih =>
    rename_i k R so tf tf1 tf2 hf hf1 hf2 rs ws tr
    intro al a w hlt hnd hal hsr hQ
    obtain ⟨hnk, hnd'⟩ := List.nodup_cons.1 hnd
    rw [wpOpsIn_cons]
    unfold wpOpIn
    have hk : k < ops.size := hlt k (by simp)
    have ho : ops[k]? = some ops[k] := by simp [hk]
    rw [ho]
    refine step_sim (hok k _ so ho hs) hwr h hsr (hal k (by simp)) fun a' w' hsr' => ?_
    refine ih (fun j hj => hlt j (by simp [hj])) hnd' (fun j hj => ?_) hsr' fun a'' w'' h2 => hQ a'' w'' (h2.al_congr fun n => ?_)
    · rintro (h | h)
      · exact hal j (by simp [hj]) h
      · have : j = k := by omega
        subst this; exact hnk hj
    · constructor
      · rintro ((h | rfl) | ⟨j, hj, rfl⟩)
        · exact .inl h
        · exact .inr ⟨k, by simp, rfl⟩
        · exact .inr ⟨j, by simp [hj], rfl⟩
      · rintro (h | ⟨j, hj, rfl⟩)
        · exact .inl (.inl h)
        · rcases List.mem_cons.1 hj with rfl | hj
          · exact .inl (.inr rfl)
          · exact .inr ⟨j, hj, rfl⟩

end
end Go.Dom

/-
  THE LOGIC: abstract states, the weakest precondition of code, and that it is right. Own work; generic over the program.
-/
set_option linter.all false
namespace Go.Dom
open Go.RowKit

/-! ## Abstract states -/

def tget : List (Nat × AV) → Nat → AV
  | [], _ => .u
  | (j, v) :: r, k => if k = j then v else tget r k

def tdel : List (Nat × AV) → Nat → List (Nat × AV)
  | [], _ => []
  | (j, v) :: r, k => if j = k then tdel r k else (j, v) :: tdel r k

def tput (t : List (Nat × AV)) (d : Option Nat) (v : AV) : List (Nat × AV) :=
  match d with
  | some d => (d, v) :: tdel t d
  | none => t

def hget : List (Nat × AObj) → Nat → Option AObj
  | [], _ => none
  | (j, v) :: r, k => if k = j then some v else hget r k

def hdel : List (Nat × AObj) → Nat → List (Nat × AObj)
  | [], _ => []
  | (j, v) :: r, k => if j = k then hdel r k else (j, v) :: hdel r k

def hput (h : List (Nat × AObj)) (n : Nat) (o : Option AObj) : List (Nat × AObj) :=
  match o with
  | some o => (n, o) :: hdel h n
  | none => hdel h n

def hputs (h : List (Nat × AObj)) : List (Nat × Option AObj) → List (Nat × AObj)
  | [] => h
  | (n, o) :: r => hputs (hput h n o) r

theorem tget_tdel (t : List (Nat × AV)) (d k : Nat) : tget (tdel t d) k = if k = d then .u else tget t k := by
  induction t with
  | nil => simp [tdel, tget]
  | cons p t ih =>
    obtain ⟨j, v⟩ := p
    simp only [tdel, tget]
    by_cases h1 : j = d
    · subst h1
      rw [if_pos rfl, ih]
      by_cases h2 : k = j <;> simp [h2]
    · rw [if_neg h1, tget, ih]
      by_cases h2 : k = j
      · subst h2; simp [h1]
      · simp [h2]

theorem tget_tput (t : List (Nat × AV)) (d : Option Nat) (v : AV) : tget (tput t d v) = putF (tget t) d v := by
  cases d with
  | none => rfl
  | some d =>
    funext k
    simp only [tput, tget, putF, tget_tdel]
    by_cases h : k = d <;> simp [h]

theorem hget_hdel (h : List (Nat × AObj)) (d k : Nat) : hget (hdel h d) k = if k = d then none else hget h k := by
  induction h with
  | nil => simp [hdel, hget]
  | cons p h ih =>
    obtain ⟨j, v⟩ := p
    simp only [hdel, hget]
    by_cases h1 : j = d
    · subst h1
      rw [if_pos rfl, ih]
      by_cases h2 : k = j <;> simp [h2]
    · rw [if_neg h1, hget, ih]
      by_cases h2 : k = j
      · subst h2; simp [h1]
      · simp [h2]

theorem hget_hput (h : List (Nat × AObj)) (n : Nat) (o : Option AObj) : hget (hput h n o) = fun k => if k = n then o else hget h k := by
  funext k
  cases o with
  | none => simp only [hput, hget_hdel]
  | some o =>
    simp only [hput, hget, hget_hdel]
    by_cases h : k = n <;> simp [h]

theorem hget_hputs (u : List (Nat × Option AObj)) : ∀ (h : List (Nat × AObj)), hget (hputs h u) = updF (hget h) u := by
  induction u with
  | nil => intro h; rfl
  | cons p u ih =>
    obtain ⟨n, o⟩ := p
    intro h
    simp only [hputs, updF, ih, hget_hput]

structure AS where
  t : List (Nat × AV)
  h : List (Nat × AObj)
  nx : Nat

def AS.upd (s : AS) (d : Option Nat) (v : AV) (up : List (Nat × Option AObj)) : AS := ⟨tput s.t d v, hputs s.h up, s.nx⟩

/-! ## Regions -/

/-- What an operation comes to, and on. -/
def optW (x : Option AO) (K : AO → Prop) : Prop :=
  match x with
  | some ao => ao.pre ∧ K ao
  | none => False
theorem optW_some (v : AV) (p : Prop) (rs : List Nat) (up : List (Nat × Option AObj)) (K : AO → Prop) : optW (some ⟨v, p, rs, up⟩) K = (p ∧ K ⟨v, p, rs, up⟩) := rfl
theorem optW_none (K : AO → Prop) : optW none K = False := rfl

/-- A call, and on. -/
def CallW (P : Program) [Tabs P] (nm : Nat) (h : List (Nat × AObj)) (fv : AV) (avs : List AV) (K : AO → Prop) : Prop := ∃ ao, ACall P nm (hget h) fv avs ao ∧ K ao

/-- One operation that is wanted. -/
def awOp (P : Program) [Tabs P] (nm : Nat) (o : SO) (s : AS) (K : AO → Prop) : Prop :=
  match o with
  | .call f args => CallW P nm s.h (f.ev (tget s.t)) (args.map (SX.ev (tget s.t))) K
  | o => optW (aop nm o (tget s.t) (hget s.h)) K

def AS.set (s : AS) (t : Nat) (v : AV) : AS := ⟨tput s.t (some t) v, s.h, s.nx⟩

/-- Two ways by a bool. -/
def bcase (x : Bool) (a b : Prop) : Prop := (x = true → a) ∧ (x = false → b)
theorem bcase_true (a b : Prop) : bcase true a b = a := by simp [bcase]
theorem bcase_false (a b : Prop) : bcase false a b = b := by simp [bcase]
theorem bcase_mk {x : Bool} {a b : Prop} (h1 : x = true → a) (h2 : x = false → b) : bcase x a b := ⟨h1, h2⟩

/-- The value of a guard, and on; behind it its slot is known. -/
def gdW (v : AV) (t : Nat) (want : Bool) (s : AS) (yes no : AS → Prop) : Prop :=
  match v with
  | .v (.b x) => bcase x ((match want with | true => yes | false => no) (s.set t (.v (.b true)))) ((match want with | true => no | false => yes) (s.set t (.v (.b false))))
  | .v (.tup []) => no s
  | _ => False
theorem gdW_yes (t : Nat) (x : Bool) (s : AS) (yes no : AS → Prop) : gdW (.v (.b x)) t true s yes no = bcase x (yes (s.set t (.v (.b true)))) (no (s.set t (.v (.b false)))) := rfl
theorem gdW_no (t : Nat) (x : Bool) (s : AS) (yes no : AS → Prop) : gdW (.v (.b x)) t false s yes no = bcase x (no (s.set t (.v (.b true)))) (yes (s.set t (.v (.b false)))) := rfl
theorem gdW_undef (t : Nat) (want : Bool) (s : AS) (yes no : AS → Prop) : gdW (.v (.tup [])) t want s yes no = no s := rfl

/-- The guard. -/
def awGd (g : Option (Nat × Bool)) (s : AS) (yes no : AS → Prop) : Prop :=
  match g with
  | none => yes s
  | some (t, want) => gdW (tget s.t t) t want s yes no

/-- A region in the order of the text. -/
def awOps (P : Program) [Tabs P] (nx : Nat) : List SOp → Nat → AS → (AS → Prop) → Prop
  | [], _, s, K => K s
  | o :: r, k, s, K => awGd o.g s (fun s => awOp P (nx + k) o.o s fun ao => awOps P nx r (k + 1) (s.upd o.d ao.v ao.up) K) (fun s => awOps P nx r (k + 1) (s.upd o.d (.v (.tup [])) []) K)


/-- The same, with what is touched. -/
def awTr (P : Program) [Tabs P] (nx : Nat) : List SOp → Nat → AS → List (Nat × List Nat × List Nat) → (AS → List (Nat × List Nat × List Nat) → Prop) → Prop
  | [], _, s, tr, K => K s tr
  | o :: r, k, s, tr, K => awGd o.g s (fun s => awOp P (nx + k) o.o s fun ao => awTr P nx r (k + 1) (s.upd o.d ao.v ao.up) ((k, ao.rs, ao.up.map (·.1)) :: tr) K) (fun s => awTr P nx r (k + 1) (s.upd o.d (.v (.tup [])) []) ((k, [], []) :: tr) K)


/-- Touches that are not ordered do not meet ('tr' in the reverse order of the text). -/
def chk (bf : List Nat) : List (Nat × List Nat × List Nat) → Bool
  | [] => true
  | (j, r, w) :: tr => tr.all (fun (i, r', w') => (w.isEmpty && w'.isEmpty) || (bf.getD j 0).testBit i || apartN r' w' r w) && chk bf tr

/-- Slots that are not ordered do not meet. -/
def stat (bf : List Nat) (sops : List SOp) : Bool :=
  (List.range sops.length).all fun j => (List.range j).all fun i => (bf.getD j 0).testBit i || match sops[i]?, sops[j]? with
    | some x, some y => apartT x y
    | _, _ => false

/-! ## Code -/

inductive AX where
  | normal
  | exit (id : Nat)
  | ret

/-- All names in it are below N. -/
def AV.bd (N : Nat) : AV → Bool
  | .p n _ _ => decide (n < N)
  | .rs n _ _ _ _ => decide (n < N)
  | .agg l => bdL N l
  | .tup l => bdL N l
  | .fn _ a c => bdL N a && bdL N c
  | _ => true
where bdL (N : Nat) : List AV → Bool
  | [] => true
  | x :: r => x.bd N && bdL N r

/-- None of the names is in it. -/
def AV.off (ns : List Nat) : AV → Bool
  | .p n _ _ => !ns.contains n
  | .rs n _ _ _ _ => !ns.contains n
  | .agg l => offL ns l
  | .tup l => offL ns l
  | .fn _ a c => offL ns a && offL ns c
  | _ => true
where offL (ns : List Nat) : List AV → Bool
  | [] => true
  | x :: r => x.off ns && offL ns r

/-- 's' says less than 's''. -/
structure AS.Le (s s' : AS) : Prop where
  t : ∀ p ∈ s.t, tget s'.t p.1 = p.2
  h : ∀ p ∈ s.h, hget s'.h p.1 = some p.2
  nx : s.nx ≤ s'.nx
  bt : ∀ p ∈ s.t, p.2.bd s.nx = true
  bh : ∀ p ∈ s.h, p.1 < s.nx ∧ ∀ c ∈ p.2.cells, c.bd s.nx = true

/-- A condition, and on. -/
def condW (v : AV) (a b : Prop) : Prop :=
  match v with
  | .v (.b c) => bcase c a b
  | .ub => a ∧ b
  | _ => False
theorem condW_ub (a b : Prop) : condW .ub a b = (a ∧ b) := rfl
theorem condW_b (c : Bool) (a b : Prop) : condW (.v (.b c)) a b = bcase c a b := rfl

/-- A loop. -/
def LoopW (B : (AX → AS → Prop) → AS → Prop) (Q : AX → AS → Prop) (N : Nat) (s : AS) : Prop :=
  ∀ X : AS → Prop, (∀ s1, B (fun e s' => match e with
    | .normal => X s'
    | e => Q e s') s1 → X s1) → (∀ s1 s2 : AS, N ≤ s1.nx → s1.Le s2 → X s1 → X s2) → X s

/-- AN ITERATOR: called with a function for its rounds it gives 'xs', one after the other, till a round says 'no more'; between the rounds it only reads. -/
def ItP (P : Program) [Tabs P] (g : FuncId) (caps : List PV) (xs : List (List PV)) : Prop :=
  Enters P g g ∧ ∀ (w : World) (rd : Rd) (cvs : List Value) (l : Nat) (J : List (List PV) → World → Prop) (Jx : World → Prop),
    (∀ b o v, TR P b o = some v → rd b o = some v) → RelL (PR rd) caps cvs →
    (∀ ys W, J ys W → ∀ b o v, rd b o = some v → W.cell? ⟨b, o, none⟩ = some v) →
    (∀ ys W W', J ys W → Below W.heap.size W W' → J ys W') → (∀ W W', Jx W → Below W.heap.size W W' → Jx W') →
    (∀ y ys vs W, J (y :: ys) W → RelL (PR rd) y vs → YieldAt Fence.wide 0 P l vs.toArray W fun e W' => (e = .returned (.bool true) ∧ J ys W') ∨ (e = .returned (.bool false) ∧ Jx W')) →
    J xs w → CallsIn Fence.wide 0 P g (#[.func (.yield l) #[] #[]] ++ cvs.toArray) w fun e W' => (∃ v, e = .returned v) ∧ (J [] W' ∨ Jx W')

/-- The parameters of a round. -/
def setPs : List (Nat × AV) → List Nat → List PV → List (Nat × AV)
  | t, p :: ps, v :: vs => setPs (tput t p (.v v)) ps vs
  | t, _, _ => t

/-- The rounds of a range over a function; t0: the slots ahead of it. -/
def RngW (RB : List PV → (AX → AS → Prop) → AS → Prop) (Q : AX → AS → Prop) (t0 : List (Nat × AV)) (N : Nat) (xs : List (List PV)) (s : AS) : Prop :=
  ∀ X : List (List PV) → AS → Prop, (∀ s1, Q .normal s1 → X [] s1) → (∀ y ys s1, RB y (fun e s' => match e with
    | .normal => X ys { s' with t := t0 }
    | e => Q e { s' with t := t0 }) s1 → X (y :: ys) s1) → (∀ ys (s1 s2 : AS), N ≤ s1.nx → s1.Le s2 → X ys s1 → X ys s2) → X xs s

/-- Behind a range over a function that reads own objects: they are back. -/
def backQ (ns : List Nat) (s : AS) (Q : AX → AS → Prop) (e : AX) (s' : AS) : Prop :=
  if ns = [] then Q e s' else (∀ p ∈ s'.h, ∀ c ∈ p.2.cells, c.off ns = true) ∧ Q e ⟨s.t, hputs s'.h (ns.map fun n => (n, hget s.h n)), s'.nx⟩
theorem backQ_mono {ns : List Nat} {s : AS} {Q Q' : AX → AS → Prop} (h : ∀ e s, Q e s → Q' e s) (e : AX) (s' : AS) (hq : backQ ns s Q e s') : backQ ns s Q' e s' := by
  unfold backQ at hq ⊢
  split at hq
  · rename_i hn; rw [if_pos hn]; exact h _ _ hq
  · rename_i hn; rw [if_neg hn]; exact ⟨hq.1, h _ _ hq.2⟩
def aw (P : Program) [Tabs P] : SC → (AX → AS → Prop) → AS → Prop
  | .skip, Q, s => Q .normal s
  | .reg none ops, Q, s => awOps P s.nx ops 0 s fun s' => Q .normal { s' with nx := s.nx + ops.length }
  | .reg (some bf) ops, Q, s => awTr P s.nx ops 0 s [] fun s' tr => chk bf tr = true ∧ Q .normal { s' with nx := s.nx + ops.length }
  | .seq a b, Q, s => aw P a (fun e s' => match e with
    | .normal => aw P b Q s'
    | e => Q e s') s
  | .cond x a b, Q, s => condW (x.ev (tget s.t)) (aw P a Q s) (aw P b Q s)
  | .blk id a, Q, s => aw P a (fun e s' => match e with
    | .exit j => if j = id then Q .normal s' else Q (.exit j) s'
    | e => Q e s') s
  | .loop a, Q, s => LoopW (aw P a) Q s.nx s
  | .rng x ps a b, Q, s => ∃ g caps xs ns, view (hget s.h) 9 (x.ev (tget s.t)) = some (.fc g [] caps) ∧ (∀ n ∈ viewN (hget s.h) 9 (x.ev (tget s.t)), n ∈ ns) ∧ (∀ n ∈ ns, 1000 ≤ n) ∧ ItP P g caps xs ∧ (∀ y ∈ xs, y.length = ps.length ∧ (ns = [] ∨ ∀ p ∈ y, p.flat = true)) ∧
      RngW (fun y Qx s1 => aw P a (fun e s2 => match e with
        | .normal => aw P b Qx s2
        | _ => False) { s1 with t := setPs s1.t ps y }) (backQ ns s Q) s.t s.nx xs { s with h := hputs s.h (ns.map fun n => (n, none)) }
  | .exit id, Q, s => Q (.exit id) s
  | .ret, Q, s => Q .ret s
  | .stop, _, _ => False


/-! ## The logic goes along -/

theorem optW_mono {x : Option AO} {K K' : AO → Prop} (h : ∀ ao, K ao → K' ao) (hx : optW x K) : optW x K' := by
  unfold optW at hx ⊢
  split
  · exact ⟨hx.1, h _ hx.2⟩
  · exact hx

theorem awOp_mono {P : Program} [Tabs P] {nm : Nat} {o : SO} {s : AS} {K K' : AO → Prop} (h : ∀ ao, K ao → K' ao) (hx : awOp P nm o s K) : awOp P nm o s K' := by
  unfold awOp at hx ⊢
  split
  · obtain ⟨ao, h1, h2⟩ := hx
    exact ⟨ao, h1, h _ h2⟩
  · rename_i hne
    cases o <;> first | exact absurd rfl (hne _ _) | exact optW_mono h hx

theorem awGd_mono {g : Option (Nat × Bool)} {s : AS} {y y' n n' : AS → Prop} (hy : ∀ s, y s → y' s) (hn : ∀ s, n s → n' s) (h : awGd g s y n) : awGd g s y' n' := by
  unfold awGd at h ⊢
  split
  · exact hy _ h
  · rename_i t want
    unfold gdW at h ⊢
    simp only at h
    split
    · rename_i x hx
      rw [hx] at h
      refine ⟨fun e => ?_, fun e => ?_⟩
      · have := h.1 e
        cases want
        · exact hn _ this
        · exact hy _ this
      · have := h.2 e
        cases want
        · exact hy _ this
        · exact hn _ this
    · rename_i hx
      rw [hx] at h; exact hn _ h
    · rename_i h1 h2
      split at h
      · rename_i hx; exact absurd hx (h1 _)
      · rename_i hx; exact absurd hx h2
      · exact h

theorem awOps_mono {P : Program} [Tabs P] {nx : Nat} {ops : List SOp} : ∀ {k : Nat} {s : AS} {K K' : AS → Prop}, (∀ s, K s → K' s) → awOps P nx ops k s K → awOps P nx ops k s K' := by
  induction ops with
  | nil => intro k s K K' h hx; exact h _ hx
  | cons o r ih =>
    intro k s K K' h hx
    simp only [awOps] at hx ⊢
    exact awGd_mono (fun s hs => awOp_mono (fun ao ha => ih h ha) hs) (fun s hs => ih h hs) hx

theorem awTr_mono {P : Program} [Tabs P] {nx : Nat} {ops : List SOp} : ∀ {k : Nat} {s : AS} {tr : List (Nat × List Nat × List Nat)} {K K' : AS → List (Nat × List Nat × List Nat) → Prop}, (∀ s t, K s t → K' s t) → awTr P nx ops k s tr K → awTr P nx ops k s tr K' := by
  induction ops with
  | nil => intro k s tr K K' h hx; exact h _ _ hx
  | cons o r ih =>
    intro k s tr K K' h hx
    simp only [awTr] at hx ⊢
    exact awGd_mono (fun s hs => awOp_mono (fun ao ha => ih h ha) hs) (fun s hs => ih h hs) hx

theorem aw_mono {P : Program} [Tabs P] {sc : SC} : ∀ {Q Q' : AX → AS → Prop} {s : AS}, (∀ e s, Q e s → Q' e s) → aw P sc Q s → aw P sc Q' s := by
  induction sc with
  | skip => intro Q Q' s h hx; exact h _ _ hx
  | reg bf ops =>
    intro Q Q' s h hx
    cases bf with
    | none => exact awOps_mono (fun s hs => h _ _ hs) hx
    | some bf => exact awTr_mono (fun s t hs => ⟨hs.1, h _ _ hs.2⟩) hx
  | seq a b iha ihb =>
    intro Q Q' s h hx
    simp only [aw] at hx ⊢
    refine iha (fun e s hs => ?_) hx
    cases e with
    | normal => exact ihb h hs
    | exit j => exact h _ _ hs
    | ret => exact h _ _ hs
  | cond x a b iha ihb =>
    intro Q Q' s h hx
    simp only [aw] at hx ⊢
    unfold condW at hx ⊢
    generalize x.ev (tget s.t) = v at hx ⊢
    cases v with
    | v y => cases y with
      | b c => exact ⟨fun e => iha h (hx.1 e), fun e => ihb h (hx.2 e)⟩
      | _ => exact hx.elim
    | ub => exact ⟨iha h hx.1, ihb h hx.2⟩
    | _ => exact hx.elim
  | blk id a iha =>
    intro Q Q' s h hx
    simp only [aw] at hx ⊢
    refine iha (fun e s hs => ?_) hx
    cases e with
    | normal => exact h _ _ hs
    | exit j =>
      simp only at hs ⊢
      split
      · rename_i e; rw [if_pos e] at hs; exact h _ _ hs
      · rename_i e; rw [if_neg e] at hs; exact h _ _ hs
    | ret => exact h _ _ hs
  | loop a iha =>
    intro Q Q' s h hx
    simp only [aw] at hx ⊢
    intro X h1 h2
    refine hx X (fun s1 hB => h1 s1 (iha (fun e s hs => ?_) hB)) h2
    cases e with
    | normal => exact hs
    | exit j => exact h _ _ hs
    | ret => exact h _ _ hs
  | rng x ps a b iha ihb =>
    intro Q Q' s h hx
    simp only [aw] at hx ⊢
    obtain ⟨g, caps, xs, ns, h1, h2, h4, h5, h3, hx⟩ := hx
    refine ⟨g, caps, xs, ns, h1, h2, h4, h5, h3, fun X g1 g2 g3 => hx X (fun s1 hq => g1 s1 (backQ_mono h _ _ hq)) (fun y ys s1 hB => g2 y ys s1 (iha (fun e s2 hs => ?_) hB)) g3⟩
    cases e with
    | normal =>
      refine ihb (fun e s3 hs3 => ?_) hs
      cases e with
      | normal => exact hs3
      | exit j => exact backQ_mono h _ _ hs3
      | ret => exact backQ_mono h _ _ hs3
    | exit j => exact hs
    | ret => exact hs
  | exit id => intro Q Q' s h hx; exact h _ _ hx
  | ret => intro Q Q' s h hx; exact h _ _ hx
  | stop => intro Q Q' s h hx; exact hx

/-- One round of a loop. -/
theorem loop_unroll {P : Program} [Tabs P] {a : SC} {Q : AX → AS → Prop} {N : Nat} {s : AS} (h : aw P a (fun e s' => match e with
    | .normal => LoopW (aw P a) Q N s'
    | e => Q e s') s) : LoopW (aw P a) Q N s := by
  intro X h1 h2
  refine h1 s (aw_mono (fun e s' hs => ?_) h)
  cases e with
  | normal => exact hs X h1 h2
  | exit j => exact hs
  | ret => exact hs

/-- A loop may go on with less. -/
theorem loop_weak {B : (AX → AS → Prop) → AS → Prop} {Q : AX → AS → Prop} {N : Nat} {s s' : AS} (hN : N ≤ s'.nx) (hle : s'.Le s) (h : LoopW B Q N s') : LoopW B Q N s :=
  fun X h1 h2 => h2 s' s hN hle (h X h1 h2)

/-- A loop by a number that goes down. -/
theorem loop_down {P : Program} [Tabs P] {a : SC} {Q : AX → AS → Prop} {N : Nat} {s : AS} {α : Type} (m : α → Nat) (st : α → AS) (ok : α → Prop) (a0 : α) (hN : ∀ x, N ≤ (st x).nx) (h0 : ok a0) (hle : (st a0).Le s)
    (hr : ∀ x, ok x → aw P a (fun e s' => match e with
      | .normal => ∃ y, ok y ∧ m y < m x ∧ (st y).Le s'
      | e => Q e s') (st x)) : LoopW (aw P a) Q N s := by
  refine loop_weak (hN a0) hle ?_
  have key : ∀ (n : Nat) (x : α), m x = n → ok x → LoopW (aw P a) Q N (st x) := by
    intro n
    induction n using Nat.strongRecOn with
    | _ n ih =>
      intro x hx hok
      refine loop_unroll (aw_mono (fun e s' hs => ?_) (hr x hok))
      cases e with
      | normal =>
        obtain ⟨y, h1, h2, h3⟩ := hs
        exact loop_weak (hN y) h3 (ih (m y) (hx ▸ h2) y rfl h1)
      | exit j => exact hs
      | ret => exact hs
  exact key _ a0 rfl h0

/-! ## The compiler of code -/

def compG (ops : Array Oper) (nt : Nat) : Option (Nat × Bool) → Option (Option (Nat × Bool))
  | none => some none
  | some (j, w) => match (ops[j]?).bind (·.dst) with
    | some t => if t < nt then some (some (t, w)) else none
    | none => none

def dOk (nt : Nat) : Option Nat → Bool
  | some d => decide (d < nt)
  | none => true

def compO (P : Program) [Tabs P] (nt : Nat) (ops : Array Oper) (o : Oper) : Option SOp :=
  match compOp P o, compG ops nt o.guard with
  | some so, some g => if dOk nt o.dst then some ⟨o.dst, so, g⟩ else none
  | _, _ => none

def compR (P : Program) [Tabs P] (nt : Nat) (ops : Array Oper) (draw : Bool) : Option SC :=
  match mapO (compO P nt ops) ops.toList with
  | some sops => if draw then (if okBf ops (Region.before ops).toList && stat (Region.before ops).toList sops then some (.reg (some (Region.before ops).toList) sops) else none) else some (.reg none sops)
  | none => none

/-- No range over a function in it. -/
def SC.norng : SC → Bool
  | .seq a b => a.norng && b.norng
  | .cond _ a b => a.norng && b.norng
  | .blk _ a => a.norng
  | .loop a => a.norng
  | .rng _ _ _ _ => false
  | _ => true
def comp (P : Program) [Tabs P] (nt : Nat) : Code → Option SC
  | .skip => some .skip
  | .region _ ops draw => compR P nt ops draw
  | .seq a b => match comp P nt a, comp P nt b with
    | some a, some b => some (.seq a b)
    | _, _ => none
  | .cond c a b => match sx P c, comp P nt a, comp P nt b with
    | some c, some a, some b => some (.cond c a b)
    | _, _, _ => none
  | .block id a => match comp P nt a with
    | some a => some (.blk id a)
    | none => none
  | .loop a => match comp P nt a with
    | some a => some (.loop a)
    | none => none
  | .rangeFunc g ps a b => match sx P g, comp P nt a, comp P nt b with
    | some g, some a, some b => if a.norng && b.norng && ps.toList.all (fun p => Nat.blt p nt) then some (.rng g ps.toList a b) else none
    | _, _, _ => none
  | .exit id => some (.exit id)
  | .ret => some .ret
  | .refuse _ => some .stop
  | .scope a => comp P nt a
  | .label _ => some .skip
  | _ => none

end Go.Dom

/-
  THE LOGIC IS RIGHT. Own work; generic over the program.
-/
set_option linter.all false
namespace Go.Dom
open Go.RowKit

section
variable {P : Program} [Tabs P]

theorem awOp_R {nm : Nat} {o : SO} {s : AS} {K : AO → Prop} (h : awOp P nm o s K) : ∃ ao, OpR P nm o (tget s.t) (hget s.h) ao ∧ K ao := by
  unfold awOp at h
  split at h
  · obtain ⟨ao, h1, h2⟩ := h
    exact ⟨ao, h1, h2⟩
  · rename_i hne
    unfold optW at h
    split at h
    · rename_i ao ha
      refine ⟨ao, ?_, h.2⟩
      unfold OpR
      split
      · exact absurd rfl (hne _ _)
      · exact ⟨ha, h.1⟩
    · exact h.elim

theorem set_same {s : AS} {t : Nat} {v : AV} (h : tget s.t t = v) : tget (s.set t v).t = tget s.t := by
  funext k
  simp only [AS.set, tget_tput, putF]
  by_cases e : k = t
  · subst e; simp [h]
  · simp [e]

theorem awGd_F {g : Option (Nat × Bool)} {s : AS} {yes no : AS → Prop} (h : awGd g s yes no) : ∃ s', tget s'.t = tget s.t ∧ s'.h = s.h ∧ s'.nx = s.nx ∧ ((gdF g (tget s.t) = some true ∧ yes s') ∨ (gdF g (tget s.t) = some false ∧ no s')) := by
  cases g with
  | none => exact ⟨s, rfl, rfl, rfl, .inl ⟨rfl, h⟩⟩
  | some p =>
    obtain ⟨t, want⟩ := p
    simp only [awGd, gdW] at h
    simp only [gdF]
    split at h
    · rename_i x hx
      rw [hx]
      cases x
      · refine ⟨s.set t (.v (.b false)), set_same hx, rfl, rfl, ?_⟩
        cases want
        · exact .inl ⟨rfl, h.2 rfl⟩
        · exact .inr ⟨rfl, h.2 rfl⟩
      · refine ⟨s.set t (.v (.b true)), set_same hx, rfl, rfl, ?_⟩
        cases want
        · exact .inr ⟨rfl, h.1 rfl⟩
        · exact .inl ⟨rfl, h.1 rfl⟩
    · rename_i hx
      rw [hx]; exact ⟨s, rfl, rfl, rfl, .inr ⟨rfl, h⟩⟩
    · exact h.elim

theorem awOps_run {nx : Nat} {sops : List SOp} : ∀ (ops : List SOp) (k : Nat) (s : AS) (K : AS → Prop), (∀ j, sops[k + j]? = ops[j]?) → awOps P nx ops k s K →
    ∃ s2 tr, FRun P nx sops (List.range' k ops.length) (tget s.t) (hget s.h) (tget s2.t) (hget s2.h) tr ∧ s2.nx = s.nx ∧ K s2 := by
  intro ops
  induction ops with
  | nil => intro k s K _ h; exact ⟨s, [], .nil _ _, rfl, h⟩
  | cons o r ih =>
    intro k s K hget h
    have ho : sops[k]? = some o := by have := hget 0; simpa using this
    have hr : ∀ j, sops[k + 1 + j]? = r[j]? := by intro j; have := hget (j + 1); rw [show k + 1 + j = k + (j + 1) by omega]; simpa using this
    simp only [awOps] at h
    rw [List.length_cons, List.range'_succ]
    obtain ⟨sg, e1, e2, e3, ⟨hg, h⟩ | ⟨hg, h⟩⟩ := awGd_F h
    · obtain ⟨ao, hop, h⟩ := awOp_R h
      rw [e1, e2] at hop
      obtain ⟨s2, tr, h1, h2, h3⟩ := ih (k + 1) _ K hr h
      refine ⟨s2, _, .cons ho (.inr ⟨hg, ao, hop, rfl, rfl, rfl, rfl⟩) (by simpa [AS.upd, tget_tput, hget_hputs, e1, e2] using h1), h2.trans e3, h3⟩
    · obtain ⟨s2, tr, h1, h2, h3⟩ := ih (k + 1) _ K hr h
      refine ⟨s2, _, .cons ho (.inl ⟨hg, rfl, rfl, rfl, rfl⟩) (by simpa [AS.upd, tget_tput, hget_hputs, updF, e1, e2] using h1), h2.trans e3, h3⟩

def enumT : Nat → List (List Nat × List Nat) → List (Nat × List Nat × List Nat)
  | _, [] => []
  | k, t :: r => (k, t.1, t.2) :: enumT (k + 1) r

theorem awTr_run {nx : Nat} {sops : List SOp} : ∀ (ops : List SOp) (k : Nat) (s : AS) (tr0 : List (Nat × List Nat × List Nat)) (K : AS → List (Nat × List Nat × List Nat) → Prop), (∀ j, sops[k + j]? = ops[j]?) → awTr P nx ops k s tr0 K →
    ∃ s2 tr, FRun P nx sops (List.range' k ops.length) (tget s.t) (hget s.h) (tget s2.t) (hget s2.h) tr ∧ s2.nx = s.nx ∧ K s2 ((enumT k tr).reverse ++ tr0) := by
  intro ops
  induction ops with
  | nil => intro k s tr0 K _ h; exact ⟨s, [], .nil _ _, rfl, by simpa [enumT, awTr] using h⟩
  | cons o r ih =>
    intro k s tr0 K hget h
    have ho : sops[k]? = some o := by have := hget 0; simpa using this
    have hr : ∀ j, sops[k + 1 + j]? = r[j]? := by intro j; have := hget (j + 1); rw [show k + 1 + j = k + (j + 1) by omega]; simpa using this
    simp only [awTr] at h
    rw [List.length_cons, List.range'_succ]
    obtain ⟨sg, e1, e2, e3, ⟨hg, h⟩ | ⟨hg, h⟩⟩ := awGd_F h
    · obtain ⟨ao, hop, h⟩ := awOp_R h
      rw [e1, e2] at hop
      obtain ⟨s2, tr, h1, h2, h3⟩ := ih (k + 1) _ _ K hr h
      refine ⟨s2, _, .cons ho (.inr ⟨hg, ao, hop, rfl, rfl, rfl, rfl⟩) (by simpa [AS.upd, tget_tput, hget_hputs, e1, e2] using h1), h2.trans e3, ?_⟩
      simpa [enumT] using h3
    · obtain ⟨s2, tr, h1, h2, h3⟩ := ih (k + 1) _ _ K hr h
      refine ⟨s2, _, .cons ho (.inl ⟨hg, rfl, rfl, rfl, rfl⟩) (by simpa [AS.upd, tget_tput, hget_hputs, updF, e1, e2] using h1), h2.trans e3, ?_⟩
      simpa [enumT] using h3

theorem enumT_get : ∀ (tr : List (List Nat × List Nat)) (k p : Nat) (t : List Nat × List Nat), tr[p]? = some t → (enumT k tr)[p]? = some (k + p, t.1, t.2) := by
  intro tr
  induction tr with
  | nil => intro k p t h; simp at h
  | cons u tr ih =>
    intro k p t h
    cases p with
    | zero => simp at h; subst h; simp [enumT]
    | succ p => simp at h; simp only [enumT, List.getElem?_cons_succ]; rw [ih (k + 1) p t h]; congr 2; omega

theorem enumT_len : ∀ (tr : List (List Nat × List Nat)) (k : Nat), (enumT k tr).length = tr.length := by
  intro tr
  induction tr with
  | nil => intro k; rfl
  | cons u tr ih => intro k; simp [enumT, ih]

theorem chk_pair {bf : List Nat} : ∀ {l : List (Nat × List Nat × List Nat)}, chk bf l = true → ∀ (x y : Nat) (j i : Nat) (r w r' w' : List Nat), x < y → l[x]? = some (j, r, w) → l[y]? = some (i, r', w') →
    (bf.getD j 0).testBit i = true ∨ apartN r' w' r w = true := by
  intro l
  induction l with
  | nil => intro _ x y j i r w r' w' _ hx; simp at hx
  | cons p l ih =>
    obtain ⟨j0, r0, w0⟩ := p
    intro h x y j i r w r' w' hxy hx hy
    simp only [chk, Bool.and_eq_true, List.all_eq_true] at h
    cases x with
    | zero =>
      simp at hx
      obtain ⟨rfl, rfl, rfl⟩ := hx
      cases y with
      | zero => omega
      | succ y =>
        simp at hy
        have := h.1 _ (List.mem_of_getElem? hy)
        simp only [Bool.or_eq_true, Bool.and_eq_true, List.isEmpty_iff] at this
        rcases this with (⟨h1, h2⟩ | h1) | h1
        · subst h1; subst h2; exact .inr (by simp [apartN])
        · exact .inl h1
        · exact .inr h1
    | succ x =>
      cases y with
      | zero => omega
      | succ y => exact ih h.2 x y j i r w r' w' (by omega) (by simpa using hx) (by simpa using hy)

theorem indL_of {bf : List Nat} {sops : List SOp} : ∀ (R : List Nat) (tr : List (List Nat × List Nat)), (∀ (p q : Nat) (i j : Nat) (t u : List Nat × List Nat), p < q → R[p]? = some i → R[q]? = some j → tr[p]? = some t → tr[q]? = some u → may bf sops i j t u) → IndL bf sops R tr := by
  intro R
  induction R with
  | nil => intro tr _; cases tr <;> trivial
  | cons i R ih =>
    intro tr h
    cases tr with
    | nil => trivial
    | cons t tr =>
      refine ⟨fun p j u hp hu => h 0 (p + 1) i j t u (by omega) rfl (by simpa using hp) rfl (by simpa using hu), ih tr fun p q a b c d hpq h1 h2 h3 h4 => h (p + 1) (q + 1) a b c d (by omega) (by simpa using h1) (by simpa using h2) (by simpa using h3) (by simpa using h4)⟩

theorem frun_len {nx : Nat} {sops : List SOp} {R : List Nat} {tf tf2 : Nat → AV} {hf hf2 : Nat → Option AObj} {tr : List (List Nat × List Nat)} (h : FRun P nx sops R tf hf tf2 hf2 tr) : tr.length = R.length := by
  induction h with
  | nil => rfl
  | cons _ _ _ ih => simp [ih]

theorem ind_of_chk {bf : List Nat} {sops : List SOp} {tr : List (List Nat × List Nat)} (hl : tr.length = sops.length) (hs : stat bf sops = true) (hc : chk bf ((enumT 0 tr).reverse ++ []) = true) : IndL bf sops (List.range sops.length) tr := by
  rw [List.append_nil] at hc
  apply indL_of
  intro p q i j t u hpq hp hq ht hu
  have hqn : q < sops.length := by have := (List.getElem?_eq_some_iff.1 hq).1; simpa using this
  have hpn : p < sops.length := by omega
  rw [List.getElem?_range (by omega)] at hp hq
  injection hp with hp; injection hq with hq; subst hp; subst hq
  have e1 := enumT_get tr 0 p t ht
  have e2 := enumT_get tr 0 q u hu
  rw [Nat.zero_add] at e1 e2
  have hlen : (enumT 0 tr).length = sops.length := by rw [enumT_len, hl]
  have r1 : (enumT 0 tr).reverse[sops.length - 1 - p]? = some (p, t.1, t.2) := by
    rw [List.getElem?_reverse (by omega), hlen]
    rw [show sops.length - 1 - (sops.length - 1 - p) = p by omega]; exact e1
  have r2 : (enumT 0 tr).reverse[sops.length - 1 - q]? = some (q, u.1, u.2) := by
    rw [List.getElem?_reverse (by omega), hlen]
    rw [show sops.length - 1 - (sops.length - 1 - q) = q by omega]; exact e2
  rcases chk_pair hc _ _ _ _ _ _ _ _ (show sops.length - 1 - q < sops.length - 1 - p by omega) r2 r1 with h | h
  · exact .inl h
  · by_cases hb : (bf.getD q 0).testBit p = true
    · exact .inl hb
    · refine .inr ⟨h, fun x y hx hy => ?_⟩
      simp only [stat, List.all_eq_true, List.mem_range] at hs
      have := hs q hqn p hpq
      rw [hx, hy] at this
      simp only [Bool.or_eq_true] at this
      rcases this with h | h
      · exact absurd h hb
      · exact h

/-! ## Weakening -/

theorem AR.restrict {C : Cx} {N : Nat} (cur : Nat → Option Nat) (hcur : ∀ n c, cur n = some c → C.cur n = some c) {x : AV} {v : Value} (h : AR C x v) : x.bd N = true → AR { C with al := fun n => n < N, cur := cur } x v := by
  have hall : ∀ (l : List AV), AV.bd.bdL N l = true → ∀ (k : Nat) (y : AV), l[k]? = some y → y.bd N = true := by
    intro l
    induction l with
    | nil => intro _ k y hy; simp at hy
    | cons x l ih =>
      intro hl k y hy
      simp only [AV.bd.bdL, Bool.and_eq_true] at hl
      cases k with
      | zero => simp at hy; subst hy; exact hl.1
      | succ k => exact ih hl.2 k y (by simpa using hy)
  induction h with
  | v h => intro _; exact .v h
  | p n ver o b ha h => intro hb; simp only [AV.bd, decide_eq_true_eq] at hb; exact .p n ver o b hb fun c hc => h c (hcur n c hc)
  | pp x o vs bk of h1 hl hr h => intro _; exact .pp x o vs bk of h1 hl hr h
  | rs n ver o len z b o' cap ha hc ho h => intro hb; simp only [AV.bd, decide_eq_true_eq] at hb; exact .rs n ver o len z b o' cap hb hc ho fun c hc' => h c (hcur n c hc')
  | fs l a h => intro _; exact .fs l a h
  | sn => intro _; exact .sn
  | agg l vs hl _ ih => intro hb; exact .agg l vs hl fun k x v hx hv => ih k x v hx hv (hall l hb k x hx)
  | tup l vs hl _ ih => intro hb; exact .tup l vs hl fun k x v hx hv => ih k x v hx hv (hall l hb k x hx)
  | fn f a c va vc hla hlc _ _ iha ihc =>
    intro hb
    simp only [AV.bd, Bool.and_eq_true] at hb
    exact .fn f a c va vc hla hlc (fun k x v hx hv => iha k x v hx hv (hall a hb.1 k x hx)) (fun k x v hx hv => ihc k x v hx hv (hall c hb.2 k x hx))
  | ub x => intro _; exact .ub x
  | u w => intro _; exact .u w

/-- Own objects are lent: their names are dead for a while. -/
def Cx.lend (C : Cx) (ns : List Nat) : Cx := { C with cur := fun n => if n ∈ ns then none else C.cur n }
theorem Cx.le_lend (C : Cx) (ns : List Nat) : C.Le (C.lend ns) := by
  refine ⟨fun _ _ _ h => h, fun _ h => h, fun n _ d h => ?_⟩
  simp only [Cx.lend] at h
  split at h
  · cases h
  · exact ⟨d, h, Nat.le_refl _, fun _ => ⟨rfl, rfl⟩⟩
theorem updF_put (ns : List Nat) (f : Nat → Option AObj) : ∀ (hf : Nat → Option AObj) (n : Nat), updF hf (ns.map fun n => (n, f n)) n = if n ∈ ns then f n else hf n := by
  induction ns with
  | nil => intro hf n; simp
  | cons m ns ih =>
    intro hf n
    simp only [List.map_cons, updF, ih, List.mem_cons]
    by_cases h1 : n ∈ ns
    · simp [h1]
    · by_cases h2 : n = m
      · subst h2; simp
      · simp [h1, h2]
theorem HR.lend {C : Cx} {hf : Nat → Option AObj} {wr wr' : Nat → Prop} {w : World} (h : HR C hf wr w) (ns : List Nat) (hwr : ∀ n ob, n ∉ ns → hf n = some ob → wr' (C.mu n)) : HR (C.lend ns) (updF hf (ns.map fun n => (n, none))) wr' w := by
  have key : ∀ n ob, updF hf (ns.map fun n => (n, none)) n = some ob → n ∉ ns ∧ hf n = some ob := by
    intro n ob hn
    rw [updF_give] at hn
    split at hn
    · cases hn
    · rename_i hm; exact ⟨hm, hn⟩
  refine ⟨h.rdw, ?_, ?_, ?_, ?_, ?_, ?_, ?_⟩
  · intro n ob hn
    obtain ⟨hm, hn⟩ := key n ob hn
    obtain ⟨h1, h2⟩ := h.live n ob hn
    exact ⟨h1, by simp only [Cx.lend, hm, if_false]; exact h2⟩
  · intro n hn
    rw [updF_give] at hn
    simp only [Cx.lend]
    split
    · rfl
    · rename_i hm; rw [if_neg hm] at hn; exact h.dead n hn
  · intro n ob hn k; exact h.sep n ob (key n ob hn).2 k
  · intro n m ob oc hn hm he; exact h.inj n m ob oc (key n ob hn).2 (key m oc hm).2 he
  · intro n ob hn; exact hwr n ob (key n ob hn).1 (key n ob hn).2
  · intro n ob hn
    obtain ⟨cs, el, h1, h2, h3, h4, h5⟩ := h.obj n ob (key n ob hn).2
    exact ⟨cs, el, h1, h2, h3, h4, fun k x v hx hv => (h5 k x v hx hv).mono (C.le_lend ns)⟩
  · intro n ob hn t ht; exact h.typ n ob (key n ob hn).2 t ht
/-- What was lent is back. -/
def Cx.back (C D : Cx) (hf : Nat → Option AObj) (ns : List Nat) : Cx := ⟨D.rd, D.al, fun n => if n ∈ ns then (hf n).map (·.ver) else D.cur n, fun n => if n ∈ ns then C.mu n else D.mu n, fun n => if n ∈ ns then C.sz n else D.sz n⟩
theorem AR.off {C D : Cx} {hf : Nat → Option AObj} {ns : List Nat} {x : AV} {v : Value} (h : AR D x v) : x.off ns = true → AR (C.back D hf ns) x v := by
  have hall : ∀ (l : List AV), AV.off.offL ns l = true → ∀ (k : Nat) (y : AV), l[k]? = some y → y.off ns = true := by
    intro l
    induction l with
    | nil => intro _ k y hy; simp at hy
    | cons x l ih =>
      intro hl k y hy
      simp only [AV.off.offL, Bool.and_eq_true] at hl
      cases k with
      | zero => simp at hy; subst hy; exact hl.1
      | succ k => exact ih hl.2 k y (by simpa using hy)
  induction h with
  | v h => intro _; exact .v h
  | p n ver o b ha h =>
    intro hb
    have hn : n ∉ ns := by simpa [AV.off] using hb
    refine .p n ver o b ha fun c hc => ?_
    simp only [Cx.back, if_neg hn] at hc ⊢
    exact h c hc
  | pp x o vs bk of h1 hl hr h => intro _; exact .pp x o vs bk of h1 hl hr h
  | rs n ver o len z b o' cap ha hc ho h =>
    intro hb
    have hn : n ∉ ns := by simpa [AV.off] using hb
    refine .rs n ver o len z b o' cap ha hc ho fun c hc' => ?_
    simp only [Cx.back, if_neg hn] at hc' ⊢
    exact h c hc'
  | fs l a h => intro _; exact .fs l a h
  | sn => intro _; exact .sn
  | agg l vs hl _ ih => intro hb; exact .agg l vs hl fun k x v hx hv => ih k x v hx hv (hall l hb k x hx)
  | tup l vs hl _ ih => intro hb; exact .tup l vs hl fun k x v hx hv => ih k x v hx hv (hall l hb k x hx)
  | fn f a c va vc hla hlc _ _ iha ihc =>
    intro hb
    simp only [AV.off, Bool.and_eq_true] at hb
    exact .fn f a c va vc hla hlc (fun k x v hx hv => iha k x v hx hv (hall a hb.1 k x hx)) (fun k x v hx hv => ihc k x v hx hv (hall c hb.2 k x hx))
  | ub x => intro _; exact .ub x
  | u w => intro _; exact .u w
theorem Cx.le_back {C D : Cx} {hf : Nat → Option AObj} {wr : Nat → Prop} {w : World} {ns : List Nat} (h : HR C hf wr w) (hle : (C.lend ns).Le D) : C.Le (C.back D hf ns) := by
  refine ⟨hle.rd, hle.al, fun n ha d hd => ?_⟩
  simp only [Cx.back] at hd ⊢
  by_cases hn : n ∈ ns
  · simp only [if_pos hn] at hd ⊢
    obtain ⟨ob, h1, rfl⟩ := Option.map_eq_some_iff.1 hd
    exact ⟨_, (h.live n ob h1).2, Nat.le_refl _, fun _ => by simp⟩
  · simp only [if_neg hn] at hd ⊢
    obtain ⟨c, h1, h2, h3⟩ := hle.cur n ha d hd
    simp only [Cx.lend, if_neg hn] at h1
    exact ⟨c, h1, h2, h3⟩
theorem HR.back {C D : Cx} {hf hf1 : Nat → Option AObj} {wr wr1 wr2 : Nat → Prop} {w w1 : World} {ns : List Nat} (h : HR C hf wr w) (hle : (C.lend ns).Le D) (h1 : HR D hf1 wr1 w1) (hcells : ∀ n ob, hf1 n = some ob → ∀ c ∈ ob.cells, c.off ns = true)
    (hpin : ∀ n ob, n ∈ ns → hf n = some ob → w1.heap[C.mu n]? = w.heap[C.mu n]?) (hrd : ∀ n ob, n ∈ ns → hf n = some ob → D.rd (C.mu n) = C.rd (C.mu n)) (hnw : ∀ n ob, n ∈ ns → hf n = some ob → ¬ wr1 (C.mu n)) (hw1 : ∀ b, wr1 b → wr2 b) (hw2 : ∀ n ob, n ∈ ns → hf n = some ob → wr2 (C.mu n)) :
    HR (C.back D hf ns) (updF hf1 (ns.map fun n => (n, hf n))) wr2 w1 := by
  have key : ∀ n ob, updF hf1 (ns.map fun n => (n, hf n)) n = some ob → (n ∈ ns ∧ hf n = some ob) ∨ (n ∉ ns ∧ hf1 n = some ob) := by
    intro n ob hn
    rw [updF_put] at hn
    split at hn
    · rename_i hm; exact .inl ⟨hm, hn⟩
    · rename_i hm; exact .inr ⟨hm, hn⟩
  have hlb := Cx.le_back h hle
  refine ⟨h1.rdw, ?_, ?_, ?_, ?_, ?_, ?_, ?_⟩
  · intro n ob hn
    rcases key n ob hn with ⟨hm, hn⟩ | ⟨hm, hn⟩
    · exact ⟨hlb.al n (h.live n ob hn).1, by simp [Cx.back, hm, hn]⟩
    · exact ⟨(h1.live n ob hn).1, by simp only [Cx.back, if_neg hm]; exact (h1.live n ob hn).2⟩
  · intro n hn
    rw [updF_put] at hn
    simp only [Cx.back]
    split
    · rename_i hm; rw [if_pos hm] at hn; simp [hn]
    · rename_i hm; rw [if_neg hm] at hn; exact h1.dead n hn
  · intro n ob hn k
    rcases key n ob hn with ⟨hm, hn⟩ | ⟨hm, hn⟩
    · simp only [Cx.back, if_pos hm]
      rw [hrd n ob hm hn]; exact h.sep n ob hn k
    · simp only [Cx.back, if_neg hm]; exact h1.sep n ob hn k
  · intro n m ob oc hn hm he
    rcases key n ob hn with ⟨a1, a2⟩ | ⟨a1, a2⟩ <;> rcases key m oc hm with ⟨b1, b2⟩ | ⟨b1, b2⟩ <;> simp only [Cx.back, a1, b1, if_true, if_false] at he
    · exact h.inj n m ob oc a2 b2 he
    · exact absurd (he ▸ h1.wr m oc b2) (hnw n ob a1 a2)
    · exact absurd (he ▸ h1.wr n ob a2) (hnw m oc b1 b2)
    · exact h1.inj n m ob oc a2 b2 he
  · intro n ob hn
    rcases key n ob hn with ⟨hm, hn⟩ | ⟨hm, hn⟩
    · simp only [Cx.back, if_pos hm]; exact hw2 n ob hm hn
    · simp only [Cx.back, if_neg hm]; exact hw1 _ (h1.wr n ob hn)
  · intro n ob hn
    rcases key n ob hn with ⟨hm, hn⟩ | ⟨hm, hn⟩
    · obtain ⟨cs, el, g1, g2, g3, g4, g5⟩ := h.obj n ob hn
      simp only [Cx.back, if_pos hm]
      exact ⟨cs, el, (hpin n ob hm hn).trans g1, g2, g3, g4, fun k x v hx hv => (g5 k x v hx hv).mono hlb⟩
    · obtain ⟨cs, el, g1, g2, g3, g4, g5⟩ := h1.obj n ob hn
      simp only [Cx.back, if_neg hm]
      exact ⟨cs, el, g1, g2, g3, g4, fun k x v hx hv => (g5 k x v hx hv).off (hcells n ob hn x (List.mem_of_getElem? hx))⟩
  · intro n ob hn t ht
    rcases key n ob hn with ⟨hm, hn⟩ | ⟨hm, hn⟩
    · obtain ⟨cs, g1⟩ := h.typ n ob hn t ht
      simp only [Cx.back, if_pos hm]
      exact ⟨cs, (hpin n ob hm hn).trans g1⟩
    · obtain ⟨cs, g1⟩ := h1.typ n ob hn t ht
      simp only [Cx.back, if_neg hm]
      exact ⟨cs, g1⟩

def SRs {P : Program} [Tabs P] (E : Env P) (s : AS) (a : Act) (w : World) : Prop := SR E (fun n => n < s.nx) (tget s.t) (hget s.h) a w ∧ ∀ n, E.C0.al n ∨ E.Ce.al n → n < s.nx

theorem tget_mem {t : List (Nat × AV)} {k : Nat} : tget t k = .u ∨ (k, tget t k) ∈ t := by
  induction t with
  | nil => exact .inl rfl
  | cons p t ih =>
    obtain ⟨j, v⟩ := p
    simp only [tget]
    by_cases e : k = j
    · subst e; rw [if_pos rfl]; exact .inr (by simp)
    · rw [if_neg e]
      rcases ih with h | h
      · exact .inl h
      · exact .inr (by simp [h])

theorem hget_mem {h : List (Nat × AObj)} {k : Nat} {o : AObj} (hk : hget h k = some o) : (k, o) ∈ h := by
  induction h with
  | nil => simp [hget] at hk
  | cons p h ih =>
    obtain ⟨j, v⟩ := p
    simp only [hget] at hk
    by_cases e : k = j
    · subst e; rw [if_pos rfl] at hk; injection hk with hk; subst hk; simp
    · rw [if_neg e] at hk; simp [ih hk]

theorem SRs.weaken {E : Env P} {s s' : AS} {a : Act} {w : World} (hle : s.Le s') (hN : ∀ n, E.C0.al n ∨ E.Ce.al n → n < s.nx) (h : SRs E s' a w) : SRs E s a w := by
  refine ⟨?_, hN⟩
  obtain ⟨⟨C, hal, hh, hrd, ⟨hwf, hC0, hst0⟩, hdf, hsz, htm⟩, -⟩ := h
  let cur : Nat → Option Nat := fun n => (hget s.h n).map (·.ver)
  have hsub : ∀ n ob, hget s.h n = some ob → hget s'.h n = some ob := fun n ob hn => hle.h _ (hget_mem hn)
  have hcur : ∀ n c, cur n = some c → C.cur n = some c := by
    intro n c hc
    simp only [cur, Option.map_eq_some_iff] at hc
    obtain ⟨ob, hn, rfl⟩ := hc
    exact (hh.live n ob (hsub n ob hn)).2
  refine ⟨{ C with al := fun n => n < s.nx, cur := cur }, fun _ => Iff.rfl, ?_, hrd, ⟨hwf, ⟨⟨hC0.c0.rd, fun n hn => hN n (.inl hn), fun n hn d hd => hC0.c0.cur n hn d (hcur n d hd)⟩, ⟨hC0.ce.rd, fun n hn => hN n (.inr hn), fun n hn d hd => hC0.ce.cur n hn d (hcur n d hd)⟩⟩, fun n ob hn => hst0 n ob (hsub n ob hn)⟩, hdf, hsz, fun k => ?_⟩
  · refine ⟨hh.rdw, ?_, ?_, ?_, ?_, ?_, ?_, fun n ob hn => hh.typ n ob (hsub n ob hn)⟩
    · intro n ob hn
      exact ⟨(hle.bh _ (hget_mem hn)).1, by simp [cur, hn]⟩
    · intro n hn; simp [cur, hn]
    · exact fun n ob hn => hh.sep n ob (hsub n ob hn)
    · exact fun n m ob oc hn hm => hh.inj n m ob oc (hsub n ob hn) (hsub m oc hm)
    · exact fun n ob hn => hh.wr n ob (hsub n ob hn)
    · intro n ob hn
      obtain ⟨cs, el, h1, h2, h3, h4, h5⟩ := hh.obj n ob (hsub n ob hn)
      refine ⟨cs, el, h1, h2, h3, h4, fun k x v hx hv => (h5 k x v hx hv).restrict cur hcur ?_⟩
      exact (hle.bh _ (hget_mem hn)).2 x (List.mem_of_getElem? hx)
  · rcases tget_mem (t := s.t) (k := k) with hu | hm
    · rw [hu]; exact .u _
    · have e := hle.t _ hm
      have hb := hle.bt _ hm
      simp only at e hb
      have := htm k
      rw [e] at this
      exact this.restrict cur hcur hb

end
end Go.Dom
