/-
  ONE STEP OF A REGION IN THE MODEL. Own work; generic over the program.
-/
import Derived.Test.YtjigfdhjmfcbpaaDomP
set_option linter.all false
namespace Go.Dom
open Go.RowKit

/-- An operation of the model and its compiled form. -/
structure OpC (P : Program) (nt : Nat) (ops : Array Oper) (o : Oper) (so : SOp) : Prop where
  op : compOp P o = some so.o
  dst : o.dst = so.d
  dlt : ∀ d, so.d = some d → d < nt
  gd : o.guard.map (fun p => (((ops[p.1]?).bind (·.dst)), p.2)) = so.g.map fun p => (some p.1, p.2)
  glt : ∀ p, so.g = some p → p.1 < nt

section
variable {P : Program} {E : Env} {al : Nat → Prop} {tf : Nat → AV} {hf : Nat → Option AObj} {a : Act} {w : World}

theorem stay_new {C0 C C' : Cx} {base : Nat} {hf' : Nat → Option AObj} (h : ∀ n ob, hf n = some ob → (C0.al n ∧ C.mu n = C0.mu n) ∨ base ≤ C.mu n) (hs : Stay base C C' hf hf') : ∀ n ob, hf' n = some ob → (C0.al n ∧ C'.mu n = C0.mu n) ∨ base ≤ C'.mu n := by
  intro n ob hn
  rcases hs n ob hn with ⟨ob0, h0, hm⟩ | hb
  · rw [hm]; exact h n ob0 h0
  · exact .inr hb

theorem run_call {o : Oper} {c : Call} (ho : o.op = .call c) {x : Operand} (hc : c.callee = .value x) {f g : FuncId} (hx : a.eval x = .func (.func f) #[] #[]) (he : Enters P f g) :
    (execOp a.eval o).run P w = .ok (.enter g (c.args.map a.eval)) w := by
  simp only [execOp, ho, resolve, hc, hx, Deferred.ofValue, Sem.run_bind, Sem.run_pure, Result.andThen, invoke]
  have := he (c.args.map a.eval) w
  simpa using this

theorem comp_call {o : Oper} {f : SX} {args : List SX} (h : compOp P o = some (.call f args)) : ∃ c x, o.op = .call c ∧ c.callee = .value x ∧ sx x = some f ∧ mapO sx c.args.toList = some args := by
  unfold compOp at h
  split at h
  case h_20 c ho =>
    unfold compCall at h
    split at h
    · rename_i x hx
      simp only [Option.bind_eq_bind, Option.bind_eq_some_iff, Option.some.injEq, SO.call.injEq] at h
      obtain ⟨f', hf', as, has, rfl, rfl⟩ := h
      exact ⟨c, x, ho, hx, hf', has⟩
    · exfalso
      split at h
      · split at h <;> simp [Option.bind_eq_some_iff] at h
      · split at h <;> simp [Option.bind_eq_some_iff] at h
      · split at h <;> simp [Option.bind_eq_some_iff] at h
      · simp [Option.bind_eq_some_iff] at h
      · simp [Option.bind_eq_some_iff] at h
      · simp [Option.bind_eq_some_iff] at h
      · split at h
        · split at h
          · simp [Option.bind_eq_some_iff] at h
          · cases h
        · cases h
      · cases h
    · cases h
  all_goals exfalso
  all_goals first
    | (simp [Option.bind_eq_some_iff] at h; done)
    | (split at h <;> simp [Option.bind_eq_some_iff] at h; done)
    | (split at h <;> first | (simp [Option.bind_eq_some_iff] at h; done) | (split at h <;> first | (simp [Option.bind_eq_some_iff] at h; done) | (split at h <;> simp [Option.bind_eq_some_iff] at h)))
    | cases h

theorem step_sim {nx k : Nat} {ops : Array Oper} {o : Oper} {so : SOp} {tf' : Nat → AV} {hf' : Nat → Option AObj} {rs ws : List Nat} {Q : Exit → Act → World → Prop} {K : Act → World → Prop}
    (hok : OpC P E.nt ops o so) (hwr : ∀ b, E.w0.heap.size ≤ b → E.wr b) (hst : FStep P nx k so tf hf tf' hf' rs ws) (hsr : SR E al tf hf a w) (hnm : ¬ al (nx + k))
    (hK : ∀ a' w', SR E (fun n => al n ∨ n = nx + k) tf' hf' a' w' → K a' w') :
    (if Region.wanted o (yielded ops a.tmps) then o.wp P a w K Q ∨ (o.asks P a w ∧ LetsOut Q) else K (a.put o.dst undef) w) := by
  obtain ⟨C, hal, hh, hrd, ⟨hwf, hC0, hst0⟩, hdf, hsz, htm⟩ := hsr
  have hdlt : ∀ d, so.d = some d → d < a.tmps.size := fun d hd => by rw [hsz]; exact hok.dlt d hd
  have hglt : ∀ p, so.g = some p → p.1 < a.tmps.size := fun p hp => by rw [hsz]; exact hok.glt p hp
  rcases hst with ⟨hg, rfl, rfl, -, -⟩ | ⟨hg, ao, hop, rfl, rfl, -, -⟩
  · have hwant := gd_ok hok.gd hglt htm hg
    rw [hwant]
    simp only [Bool.false_eq_true, if_false]
    refine hK _ _ ⟨C.give (nx + k), ?_, hh.give _, hrd, ⟨hwf, hC0.trans (C.le_give _), hst0⟩, ?_, ?_, ?_⟩
    · intro n; simp only [Cx.give, hal]
    · rw [put_defers]; exact hdf
    · rw [put_size]; exact hsz
    · rw [hok.dst]
      refine put_ok hdlt (rel_mono (C.le_give _) htm) ?_
      exact .v (.tup [] [] rfl (fun k x v hx => by simp at hx))
  · have hwant := gd_ok hok.gd hglt htm hg
    rw [hwant]
    simp only [if_true]
    refine .inl ?_
    unfold OpR at hop
    split at hop
    · rename_i f args hso
      have hcomp := hok.op
      rw [hso] at hcomp
      obtain ⟨c, x, ho, hc, hx, has⟩ := comp_call hcomp
      have hcall0 := ho
      have hfv := sx_ok hx htm
      have hav := sxL_ok has htm
      have fin : ∀ (r : PV) (g : FuncId) (f0 : FuncId), fnOf (f.ev tf) = some f0 → Enters P f0 g →
          Calls P g (c.args.toList.map a.eval).toArray w (fun e w' => ∃ v, e = .returned v ∧ Below w.heap.size w w' ∧ PR (extRd C.rd w w') r v) →
          (∀ a' w', SR E (fun n => al n ∨ n = nx + k) (putF tf so.d (.v r)) hf a' w' → K a' w') → o.wp P a w K Q := by
        intro r g f0 hf0 he hcall hK
        have hxe : a.eval x = .func (.func f0) #[] #[] := by
          unfold fnOf at hf0
          split at hf0
          · rename_i f1 e1
            rw [e1] at hfv
            simp only [Option.some.injEq] at hf0; subst hf0
            generalize a.eval x = xx at hfv
            cases hfv with | v hfv => cases hfv; rfl
          · cases hf0
        have hrun := run_call (P := P) (w := w) ho hc hxe he
        have ea : c.args.map a.eval = (c.args.toList.map a.eval).toArray := Array.ext' (by simp)
        unfold Oper.wp
        rw [hrun, Oper.upon_enter, ea]
        refine hcall.mono ?_
        rintro e w' ⟨v, rfl, hb, hpr⟩
        refine hK _ _ ⟨C.after w w' (nx + k), ?_, hh.after hb _, ?_, ⟨hwf.trans (Wf.below hb), hC0.trans (Cx.le_after hh w' _), hst0⟩, ?_, ?_, ?_⟩
        · intro n; simp only [Cx.after, hal]
        · intro b hlt
          rw [← hrd b hlt]
          funext q
          have : b < w.heap.size := Nat.lt_of_lt_of_le hlt hwf.size
          simp [Cx.after, extRd, this]
        · rw [put_defers]; exact hdf
        · rw [put_size]; exact hsz
        · rw [hok.dst]
          exact put_ok hdlt (rel_mono (Cx.le_after hh w' _) htm) (.v hpr)
      cases hop with
      | eff f0 hs v up hf0 hhs he =>
        obtain ⟨g, hen, hcall⟩ := he
        have hxe : a.eval x = .func (.func f0) #[] #[] := by
          unfold fnOf at hf0
          split at hf0
          · rename_i f1 e1
            rw [e1] at hfv
            simp only [Option.some.injEq] at hf0; subst hf0
            generalize a.eval x = xx at hfv
            cases hfv with | v hfv => cases hfv; rfl
          · cases hf0
        have hrun := run_call (P := P) (w := w) ho hc hxe hen
        have ea : c.args.map a.eval = (c.args.toList.map a.eval).toArray := Array.ext' (by simp)
        unfold Oper.wp
        rw [hrun, Oper.upon_enter, ea]
        refine (hcall C hf E.wr w E.w0.heap.size _ hh hwr hwf.size hhs (fun h => hnm ((hal _).1 h)) hav).mono ?_
        rintro e w' ⟨val, C', rfl, hv, hh', hle, hal', hwf', hrd', hstay⟩
        refine hK _ _ ⟨C', ?_, hh', ?_, ⟨hwf.trans hwf', hC0.trans hle, stay_new hst0 hstay⟩, ?_, ?_, ?_⟩
        · intro n; rw [hal', hal]
        · intro b hlt; rw [hrd' b hlt]; exact hrd b hlt
        · rw [put_defers]; exact hdf
        · rw [put_size]; exact hsz
        · rw [hok.dst]; exact put_ok hdlt (rel_mono hle htm) hv
      | same f0 v0 hf0 hav0 he =>
        have hxe : a.eval x = .func (.func f0) #[] #[] := by
          unfold fnOf at hf0
          split at hf0
          · rename_i f1 e1
            rw [e1] at hfv
            simp only [Option.some.injEq] at hf0; subst hf0
            generalize a.eval x = xx at hfv
            cases hfv with | v hfv => cases hfv; rfl
          · cases hf0
        rw [hav0] at hav
        obtain ⟨val, us, hvs, hval, hnil⟩ := hav.uncons
        have hus := hnil.nil_inv
        subst hus
        have ea : c.args.map a.eval = #[val] := by apply Array.ext'; simpa using hvs
        have hrun : (execOp a.eval o).run P w = .ok (.value val) w := by
          simp only [execOp, ho, resolve, hc, hxe, Deferred.ofValue, Sem.run_bind, Sem.run_pure, Result.andThen, invoke, ea]
          simpa using he val w
        unfold Oper.wp
        rw [hrun, Oper.upon_value]
        refine hK _ _ ⟨C.give (nx + k), ?_, hh.give _, hrd, ⟨hwf, hC0.trans (C.le_give _), hst0⟩, ?_, ?_, ?_⟩
        · intro n; simp only [Cx.give, hal]
        · rw [put_defers]; exact hdf
        · rw [put_size]; exact hsz
        · rw [hok.dst]; exact put_ok hdlt (rel_mono (C.le_give _) htm) (hval.mono (C.le_give _))
      | pure f0 pvs r hf0 hargs he =>
        obtain ⟨g, hen, hcall⟩ := he
        exact fin r g f0 hf0 hen (hcall w C.rd _ hh.rdw (pvA_ok hav hargs)) hK
      | view f0 pvs r hf0 hargs hflat he =>
        obtain ⟨g, hen, hcall⟩ := he
        have : ∀ b, Decidable (∃ n ob, hf n = some ob ∧ C.mu n = b) := fun b => Classical.propDecidable _
        have hvr : RelL (PR (viewRd C hf w)) pvs (c.args.toList.map a.eval) := by
          obtain ⟨m1, m2⟩ := mapO_some hargs
          refine ⟨by rw [← m1]; exact hav.1, fun j y v hy hv => ?_⟩
          have hj : j < (args.map (SX.ev tf)).length := by have := (List.getElem?_eq_some_iff.1 hy).1; omega
          exact view_ok hh 9 _ y v (hav.2 j _ v (List.getElem?_eq_getElem hj) hv) (m2 j _ y (List.getElem?_eq_getElem hj) hy)
        have hrdw : ∀ b o v, viewRd C hf w b o = some v → w.cell? ⟨b, o, none⟩ = some v := by
          intro b o v hv
          unfold viewRd at hv
          split at hv
          · exact hv
          · exact hh.rdw _ _ _ hv
        refine fin r g f0 hf0 hen ((hcall w _ _ hrdw hvr).mono ?_) hK
        rintro e w' ⟨v, rfl, hb, hpr⟩
        exact ⟨v, rfl, hb, hpr.flat_any hflat⟩
      | give f0 pvs r hf0 hargs hlo he =>
        obtain ⟨g, hen, hcall⟩ := he
        generalize hns : (args.map (SX.ev tf)).flatMap (viewN hf 9) = ns at hlo hK
        have : ∀ b, Decidable (∃ n ob, onlyF hf ns n = some ob ∧ (C.only ns).mu n = b) := fun b => Classical.propDecidable _
        have ho := hh.only ns
        have hvr : RelL (PR (viewRd (C.only ns) (onlyF hf ns) w)) pvs (c.args.toList.map a.eval) := by
          obtain ⟨m1, m2⟩ := mapO_some hargs
          refine ⟨by rw [← m1]; exact hav.1, fun j y v hy hv => ?_⟩
          have hj : j < (args.map (SX.ev tf)).length := by have := (List.getElem?_eq_some_iff.1 hy).1; omega
          refine view_ok ho 9 _ y v ((hav.2 j _ v (List.getElem?_eq_getElem hj) hv).mono (C.le_only ns)) ?_
          rw [(view_hf (hf := hf) (hf' := onlyF hf ns) 9 _ fun n hn => ?_).1]
          · exact m2 j _ y (List.getElem?_eq_getElem hj) hy
          · have : n ∈ ns := by rw [← hns]; exact List.mem_flatMap.2 ⟨_, List.getElem_mem hj, hn⟩
            simp only [onlyF, this, if_true]
        have hrdw : ∀ b o v, viewRd (C.only ns) (onlyF hf ns) w b o = some v → w.cell? ⟨b, o, none⟩ = some v := by
          intro b o v hv
          unfold viewRd at hv
          split at hv
          · exact hv
          · exact hh.rdw _ _ _ hv
        have hxe : a.eval x = .func (.func f0) #[] #[] := by
          unfold fnOf at hf0
          split at hf0
          · rename_i f1 e1
            rw [e1] at hfv
            simp only [Option.some.injEq] at hf0; subst hf0
            generalize a.eval x = xx at hfv
            cases hfv with | v hfv => cases hfv; rfl
          · cases hf0
        have hrun := run_call (P := P) (w := w) hcall0 hc hxe hen
        have ea : c.args.map a.eval = (c.args.toList.map a.eval).toArray := Array.ext' (by simp)
        unfold Oper.wp
        rw [hrun, Oper.upon_enter, ea]
        refine (hcall w _ _ hrdw hvr).mono ?_
        rintro e w' ⟨v, rfl, hb, hpr⟩
        obtain ⟨gle, gh⟩ := hh.gave hb ns (nx + k)
        have hrest : ∀ n ob, updF hf (ns.map fun n => (n, none)) n = some ob → hf n = some ob := by
          intro n ob hn
          rw [updF_give] at hn
          split at hn
          · cases hn
          · exact hn
        refine hK _ _ ⟨_, ?_, gh, ?_, ⟨hwf.trans (Wf.below hb), hC0.trans gle, fun n ob hn => hst0 n ob (hrest n ob hn)⟩, ?_, ?_, ?_⟩
        · intro n; simp only [Cx.gave, hal]
        · intro b hlt
          rw [← hrd b hlt]
          funext q
          have h1 : b < w.heap.size := Nat.lt_of_lt_of_le hlt hwf.size
          simp only [Cx.gave, extRd, h1, if_true, viewRd]
          split
          · rename_i hex
            obtain ⟨m, oc, hmm, hmu⟩ := hex
            exfalso
            simp only [onlyF] at hmm
            split at hmm
            · rename_i hmem
              rcases hst0 m oc hmm with ⟨h2, -⟩ | h2
              · have := E.lo m h2
                have := hlo m hmem
                omega
              · have hmu : C.mu m = b := hmu
                omega
            · cases hmm
          · rfl
        · rw [put_defers]; exact hdf
        · rw [put_size]; exact hsz
        · rw [hok.dst]; exact put_ok hdlt (rel_mono gle htm) (.v hpr)
    · obtain ⟨ha, hp⟩ := hop
      obtain ⟨val, w', C', hrun, hv, hh', hle, hal', hwf', hrd', hstay⟩ := aop_ok hok.op ha hp hh htm (base := E.w0.heap.size) (fun h => hnm ((hal _).1 h)) hwr hwf.size
      have goal : K (a.put o.dst val) w' := by
        refine hK _ _ ⟨C', ?_, hh', ?_, ⟨hwf.trans hwf', hC0.trans hle, stay_new hst0 hstay⟩, ?_, ?_, ?_⟩
        · intro n; rw [hal', hal]
        · intro b hlt; rw [hrd' b hlt]; exact hrd b hlt
        · rw [put_defers]; exact hdf
        · rw [put_size]; exact hsz
        · rw [hok.dst]; exact put_ok hdlt (rel_mono hle htm) hv
      unfold Oper.wp
      rcases hrun with hrun | ⟨hrun, rfl⟩
      · rw [hrun, Oper.upon_value]; exact goal
      · rw [hrun, Oper.upon_skip]; exact goal

end
end Go.Dom
