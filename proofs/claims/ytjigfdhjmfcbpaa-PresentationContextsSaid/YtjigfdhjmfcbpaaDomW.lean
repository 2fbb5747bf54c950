/-
  THE LOGIC IS RIGHT: code, and contracts out of it. Own work; generic over the program.
-/
import Derived.Test.YtjigfdhjmfcbpaaDomV
import GoSem.Claims
import Derived.Eval
set_option linter.all false
namespace Go.Dom
open Go.RowKit

/-- The exits of code, here and in the model. -/
inductive XR : Exit → AX → Prop where
  | normal : XR .normal .normal
  | exit (id : Nat) : XR (.exit id) (.exit id)
  | ret : XR .ret .ret

/-- What holds behind code. -/
def PostA (E : Env) (Q : AX → AS → Prop) (e : Exit) (a : Act) (w : World) : Prop := ∃ x s, XR e x ∧ Q x s ∧ SRs E s a w

section
variable {P : Program} {E : Env}

theorem compO_ok {nt : Nat} {ops : Array Oper} {o : Oper} {so : SOp} (h : compO P nt ops o = some so) : OpC P nt ops o so := by
  unfold compO at h
  split at h
  · rename_i s g h1 h2
    split at h
    · rename_i hd
      simp only [Option.some.injEq] at h; subst h
      refine ⟨h1, rfl, ?_, ?_, ?_⟩
      · intro d hd'
        have hd' : o.dst = some d := hd'
        rw [hd'] at hd
        simpa [dOk] using hd
      · unfold compG at h2
        split at h2
        · rename_i hg; simp only [Option.some.injEq] at h2; subst h2; simp [hg]
        · rename_i j b hg
          split at h2
          · rename_i t ht
            split at h2
            · simp only [Option.some.injEq] at h2; subst h2; simp [hg, ht]
            · cases h2
          · cases h2
      · intro p hp
        simp only at hp
        unfold compG at h2
        split at h2
        · simp only [Option.some.injEq] at h2; subst h2; cases hp
        · split at h2
          · split at h2
            · simp only [Option.some.injEq] at h2; subst h2
              injection hp with hp; subst hp; assumption
            · cases h2
          · cases h2
    · cases h
  · cases h

theorem compOps_ok {nt : Nat} {ops : Array Oper} {sops : List SOp} (h : mapO (compO P nt ops) ops.toList = some sops) : sops.length = ops.size ∧ ∀ (k : Nat) (o : Oper) (so : SOp), ops[k]? = some o → sops[k]? = some so → OpC P nt ops o so := by
  obtain ⟨h1, h2⟩ := mapO_some h
  exact ⟨by simpa using h1.symm, fun k o so ho hs => compO_ok (h2 k o so (by simpa using ho) hs)⟩

theorem nx_fresh {s : AS} (k : Nat) : ¬ (s.nx + k < s.nx) := by omega

theorem SRs.region {s s2 : AS} {n : Nat} {a : Act} {w : World} (hN : ∀ n, E.C0.al n → n < s.nx) (h : SR E (fun m => m < s.nx ∨ ∃ k, k < n ∧ m = s.nx + k) (tget s2.t) (hget s2.h) a w) : SRs E { s2 with nx := s.nx + n } a w := by
  refine ⟨SR.al_congr h fun m => ?_, fun m hm => Nat.lt_of_lt_of_le (hN m hm) (Nat.le_add_right _ _)⟩
  constructor
  · rintro (h | ⟨k, h1, rfl⟩)
    · show m < s.nx + n; omega
    · show s.nx + k < s.nx + n; omega
  · intro h
    have h : m < s.nx + n := h
    by_cases hm : m < s.nx
    · exact .inl hm
    · exact .inr ⟨m - s.nx, by omega, by omega⟩

theorem aw_ok (hm : P.follows .mixedOrders = true) (hwr : ∀ b, E.w0.heap.size ≤ b → E.wr b) : ∀ (c : Code) (sc : SC), comp P E.nt c = some sc → ∀ (Q : AX → AS → Prop) (s : AS) (a : Act) (w : World), aw P sc Q s → SRs E s a w → c.wp P (PostA E Q) a w := by
  intro c
  induction c with
  | skip =>
    intro sc h Q s a w ha hs
    simp only [comp, Option.some.injEq] at h; subst h
    exact wp_skip ⟨_, s, .normal, ha, hs⟩
  | region id ops draw =>
    intro sc h Q s a w ha hs
    simp only [comp, compR] at h
    split at h
    · rename_i sops hsops
      obtain ⟨hlen, hok⟩ := compOps_ok hsops
      cases draw with
      | true =>
        simp only [if_true] at h
        split at h
        · rename_i hcond
          simp only [Bool.and_eq_true] at hcond
          simp only [Option.some.injEq] at h; subst h
          simp only [aw] at ha
          obtain ⟨s2, tr, h1, h2, h3, h4⟩ := awTr_run (sops := sops) sops 0 s [] _ (fun j => by simp) ha
          rw [← List.range_eq_range'] at h1
          have hl := frun_len h1
          rw [List.length_range] at hl
          have hind := ind_of_chk hl hcond.2 h3
          rw [hlen] at h1 hind
          refine wp_reg_draw hm hwr hlen hok hcond.1 (nx := s.nx) (fun k _ => nx_fresh k) h1 hind hs.1 fun a' w' hsr => ⟨_, _, .normal, h4, ?_⟩
          rw [hlen]
          exact SRs.region hs.2 hsr
        · cases h
      | false =>
        simp only [Bool.false_eq_true, if_false, Option.some.injEq] at h; subst h
        simp only [aw] at ha
        obtain ⟨s2, tr, h1, h2, h3⟩ := awOps_run (sops := sops) sops 0 s _ (fun j => by simp) ha
        rw [← List.range_eq_range', hlen] at h1
        refine wp_region (wp_ops_text hwr hok (nx := s.nx) h1 (fun k hk => List.mem_range.1 hk) List.nodup_range (fun k _ => nx_fresh k) hs.1 fun a' w' hsr => ⟨_, _, .normal, h3, ?_⟩)
        rw [hlen]
        refine SRs.region hs.2 (hsr.al_congr fun n => ?_)
        constructor
        · rintro (h | ⟨k, hk, h⟩)
          · exact .inl h
          · exact .inr ⟨k, List.mem_range.1 hk, h⟩
        · rintro (h | ⟨k, hk, h⟩)
          · exact .inl h
          · exact .inr ⟨k, List.mem_range.2 hk, h⟩
    · cases h
  | seq x y ihx ihy =>
    intro sc h Q s a w ha hs
    simp only [comp] at h
    split at h
    · rename_i sx' sy' hx hy
      simp only [Option.some.injEq] at h; subst h
      simp only [aw] at ha
      refine wp_seq (wp_mono (ihx _ hx _ s a w ha hs) ?_)
      rintro e a' w' ⟨x, s', hxr, hq, hsr⟩
      cases hxr with
      | normal => exact ihy _ hy Q s' a' w' hq hsr
      | exit id => exact ⟨_, s', .exit id, hq, hsr⟩
      | ret => exact ⟨_, s', .ret, hq, hsr⟩
    · cases h
  | cond c x y ihx ihy =>
    intro sc h Q s a w ha hs
    simp only [comp] at h
    split at h
    · rename_i c' sx' sy' hc hx hy
      simp only [Option.some.injEq] at h; subst h
      simp only [aw] at ha
      obtain ⟨⟨C, hal, hh, hrd, hwf, hdf, hsz, htm⟩, -⟩ := id hs
      have hcv := sx_ok hc htm
      unfold condW at ha
      split at ha
      · rename_i b hb
        rw [hb] at hcv
        refine wp_cond_split (inv_b hcv) ?_ ?_
        · intro e; exact ihx _ hx Q s a w (ha.1 e) hs
        · intro e; exact ihy _ hy Q s a w (ha.2 e) hs
      · exact ha.elim
    · cases h
  | block id x ih =>
    intro sc h Q s a w ha hs
    simp only [comp] at h
    split at h
    · rename_i sx' hx
      simp only [Option.some.injEq] at h; subst h
      simp only [aw] at ha
      refine wp_block (wp_mono (ih _ hx _ s a w ha hs) ?_)
      rintro e a' w' ⟨x, s', hxr, hq, hsr⟩
      cases hxr with
      | normal => exact ⟨_, s', .normal, hq, hsr⟩
      | exit j =>
        simp only [Exit.inBlock]
        simp only at hq
        split at hq
        · rename_i e; rw [if_pos e]; exact ⟨_, s', .normal, hq, hsr⟩
        · rename_i e; rw [if_neg e]; exact ⟨_, s', .exit j, hq, hsr⟩
      | ret => exact ⟨_, s', .ret, hq, hsr⟩
    · cases h
  | loop x ih =>
    intro sc h Q s a w ha hs
    simp only [comp] at h
    split at h
    · rename_i sx' hx
      simp only [Option.some.injEq] at h; subst h
      simp only [aw] at ha
      intro b k cs
      have key := ha (fun s1 => ∀ (a : Act) (w : World), SRs E s1 a w →
          ∃ e a' w', PostA E Q e a' w' ∧ Arrives P (lone (b.at a (.code x :: .inLoop x :: k)) cs w) b k cs e a' w') ?_ ?_
      · obtain ⟨e, a', w', hq, harr⟩ := key a w hs
        exact ⟨e, a', w', hq, .of_steps (.one step_loop) harr⟩
      · intro s1 hB a w hs1
        obtain ⟨e, a₁, w₁, ⟨xx, s2, hxr, hq, hsr⟩, harr⟩ := ih _ hx _ s1 a w hB hs1 b (.inLoop x :: k) cs
        cases hxr with
        | normal =>
          obtain ⟨e₂, a₂, w₂, hq₂, harr₂⟩ := hq a₁ w₁ hsr
          exact ⟨e₂, a₂, w₂, hq₂, .of_steps (Steps.trans harr (.one step_inLoop)) harr₂⟩
        | exit id => exact ⟨_, a₁, w₁, ⟨_, s2, .exit id, hq, hsr⟩, .pass (x := .inLoop x) rfl (fun _ _ => .inl (by simp)) harr⟩
        | ret => exact ⟨_, a₁, w₁, ⟨_, s2, .ret, hq, hsr⟩, .pass (x := .inLoop x) rfl (fun _ _ => .inl (by simp)) harr⟩
      · intro s1 s2 hnx hle hX a w hs2
        exact hX a w (hs2.weaken hle fun n hn => Nat.lt_of_lt_of_le (hs.2 n hn) hnx)
    · cases h
  | exit id =>
    intro sc h Q s a w ha hs
    simp only [comp, Option.some.injEq] at h; subst h
    exact wp_exit ⟨_, s, .exit id, ha, hs⟩
  | ret =>
    intro sc h Q s a w ha hs
    simp only [comp, Option.some.injEq] at h; subst h
    exact wp_ret ⟨_, s, .ret, ha, hs⟩
  | rangeFunc => intro sc h; simp [comp] at h
  | scope => intro sc h; simp [comp] at h
  | label => intro sc h; simp [comp] at h
  | goto => intro sc h; simp [comp] at h
  | refuse => intro sc h Q s a w ha; simp only [comp, Option.some.injEq] at h; subst h; exact ha.elim

/-! ## Results -/

inductive SRes where
  | t (n : Nat)
  | c (n : Nat) (ag : Bool) (z : Nat)

def compRes (P : Program) : List ResultVar → Option (List SRes) :=
  mapO fun
    | .tmp t => some (.t t)
    | .cell a ty => match isAggT P ty, sizeT P ty with
      | some ag, some z => if ag || z == 1 then some (.c a ag z) else none
      | _, _ => none

/-- A result of a state. -/
def resA (s : AS) : SRes → Option (AV × Prop)
  | .t n => some (tget s.t n, True)
  | .c n ag z => match tget s.t n with
    | .p m ver o => match hget s.h m with
      | some ob => some (if ag then mkAgg ((ob.cells.drop o).take z) else ob.cells.getD o .u, ob.ver = ver ∧ o + z ≤ ob.cells.length)
      | none => none
    | _ => none

/-- The results of a state, as pure values. -/
def resL (s : AS) : List SRes → Option (List PV × Prop)
  | [] => some ([], True)
  | r :: rs => match resA s r, resL s rs with
    | some (v, p), some (l, q) => match view (hget s.h) 9 v with
      | some y => some (y :: l, p ∧ q)
      | none => none
    | _, _ => none

def mkRes : List PV → PV
  | [y] => y
  | l => .tup l

/-- The code has come to its end with these results. -/
def RetQ (rs : List SRes) (r : PV) (x : AX) (s : AS) : Prop :=
  (match x with
   | .exit _ => False
   | _ => True) ∧ match resL s rs with
    | some (l, p) => p ∧ mkRes l = r
    | none => False


theorem loadVar_ok {C : Cx} {hf : Nat → Option AObj} {wr : Nat → Prop} {w : World} (h : HR C hf wr w) {ty : TypeId} {ag : Bool} {z : Nat} (hag : isAggT P ty = some ag) (hz : sizeT P ty = some z) (h1 : ag = true ∨ z = 1) {n ver o : Nat} {x : Value} (hx : AR C (.p n ver o) x) {ob : AObj} (hn : hf n = some ob) (hv : ob.ver = ver) (hl : o + z ≤ ob.cells.length) :
    ∃ val, (do loadVar ty (← asAddr x) : Sem Value).run P w = .ok val w ∧ AR C (if ag then mkAgg ((ob.cells.drop o).take z) else ob.cells.getD o .u) val := by
  have e := inv_p hx h hn hv; subst e
  obtain ⟨vs, hrun, hrel⟩ := run_loadObj (P := P) h hn hl
  cases ag with
  | true =>
    refine ⟨.agg vs.toArray, ?_, .mkAgg hrel⟩
    simp only [asAddr, loadVar, Sem.run_bind, Sem.run_pure, Result.andThen, isAggT_run hag, sizeT_run hz, hrun, if_true]
  | false =>
    have hz1 : z = 1 := by simpa using h1
    subst hz1
    have hlen' : o < ob.cells.length := by omega
    rw [take_one hlen'] at hrel
    obtain ⟨v, us, rfl, hv1, hnil⟩ := hrel.uncons
    rw [hnil.nil_inv] at hrun
    refine ⟨v, ?_, by simp only [Bool.false_eq_true, if_false]; rw [getD_lt hlen']; exact hv1⟩
    simp only [asAddr, loadVar, Sem.run_bind, Sem.run_pure, Result.andThen, isAggT_run hag, Bool.false_eq_true, if_false, load_one hrun]

/-- The results, as the model reads them. -/
theorem res_ok {C : Cx} {s : AS} {wr : Nat → Prop} {a : Act} {w : World} (h : HR C (hget s.h) wr w) (htm : ∀ k, AR C (tget s.t k) (a.tmps.getD k undef)) [∀ b, Decidable (∃ n ob, hget s.h n = some ob ∧ C.mu n = b)] : ∀ (vs : List ResultVar) (rs : List SRes), compRes P vs = some rs → ∀ (l : List PV) (p : Prop), resL s rs = some (l, p) → p →
    ∃ us : List Value, (vs.mapM (fun
      | .tmp t => pure (a.tmps.getD t undef)
      | .cell q ty => do loadVar ty (← asAddr (a.tmps.getD q undef)) : ResultVar → Sem Value)).run P w = .ok us w ∧ RelL (PR (viewRd C (hget s.h) w)) l us := by
  intro vs
  induction vs with
  | nil =>
    intro rs hr l p hl hp
    simp only [compRes, mapO, Option.some.injEq] at hr; subst hr
    simp only [resL, Option.some.injEq, Prod.mk.injEq] at hl
    obtain ⟨rfl, -⟩ := hl
    exact ⟨[], by simp, .nil⟩
  | cons v vs ih =>
    intro rs hr l p hl hp
    simp only [compRes, mapO] at hr
    split at hr
    · rename_i y ys hy hys
      simp only [Option.some.injEq] at hr; subst hr
      simp only [resL] at hl
      split at hl
      · rename_i av q l' q' hav hl'
        split at hl
        · rename_i z hz
          simp only [Option.some.injEq, Prod.mk.injEq] at hl
          obtain ⟨rfl, rfl⟩ := hl
          obtain ⟨us, hus, hrel⟩ := ih ys hys l' q' hl' hp.2
          have hone : ∃ val, (match v with
              | .tmp t => pure (a.tmps.getD t undef)
              | .cell q ty => do loadVar ty (← asAddr (a.tmps.getD q undef)) : Sem Value).run P w = .ok val w ∧ AR C av val := by
            cases v with
            | tmp t =>
              simp only [Option.some.injEq] at hy; subst hy
              simp only [resA, Option.some.injEq, Prod.mk.injEq] at hav
              obtain ⟨rfl, -⟩ := hav
              exact ⟨_, rfl, htm t⟩
            | cell qq ty =>
              simp only at hy
              split at hy
              · rename_i ag zz hag hzz
                split at hy
                · rename_i hcond
                  simp only [Option.some.injEq] at hy; subst hy
                  simp only [resA] at hav
                  have hq := htm qq
                  split at hav
                  · rename_i m ver o hm
                    rw [hm] at hq
                    split at hav
                    · rename_i ob hob
                      simp only [Option.some.injEq, Prod.mk.injEq] at hav
                      obtain ⟨rfl, rfl⟩ := hav
                      exact loadVar_ok h hag hzz (by simpa using hcond) hq hob hp.1.1 hp.1.2
                    · cases hav
                  · cases hav
                · cases hy
              · cases hy
          obtain ⟨val, hval, har⟩ := hone
          refine ⟨val :: us, ?_, .cons (view_ok h 9 av z val har hz) hrel⟩
          rw [List.mapM_cons]
          simp only [Sem.run_bind, hval, Result.andThen, hus, Sem.run_pure]
        · cases hl
      · cases hl
    · cases hr

/-- A CONTRACT OUT OF THE LOGIC. -/
theorem EvP.of_aw {f : FuncId} {fn : Func} {code : Code} {sc : SC} {rs : List SRes} (hm : P.follows .mixedOrders = true) (hent : Enters P f f) (hfn : P.funcs[f]? = some fn) (hbody : fn.body = some code) (hcomp : comp P fn.ntmps code = some sc) (hres : compRes P fn.results.toList = some rs)
    {args : List PV} {r : PV} (hlen : args.length ≤ fn.ntmps) (h : aw P sc (RetQ rs r) ⟨args.mapIdx (fun i x => (i, .v x)), [], 1000⟩) : EvP P f args r := by
  refine ⟨f, hent, fun w rd vs hrd hargs => ?_⟩
  let E : Env := ⟨w, rd, fun b => w.heap.size ≤ b, fn.ntmps, ⟨rd, fun _ => False, fun _ => none, fun _ => 0, fun _ => 0⟩, [], fun _ h => h.elim⟩
  refine calls_of_wp hfn hbody ?_
  have hvl : vs.length = args.length := hargs.1.symm
  have hget : ∀ (l : List PV) (n k : Nat), tget (l.mapIdx (fun i x => (i + n, AV.v x))) (k + n) = match l[k]? with | some x => .v x | none => .u := by
    intro l
    induction l with
    | nil => intro n k; rfl
    | cons x l ih =>
      intro n k
      rw [List.mapIdx_cons]
      simp only [tget]
      cases k with
      | zero => simp
      | succ k =>
        rw [if_neg (by omega)]
        have := ih (n + 1) k
        rw [show k + 1 + n = k + (n + 1) by omega]
        have e : (l.mapIdx fun i x => (i + 1 + n, AV.v x)) = l.mapIdx fun i x => (i + (n + 1), AV.v x) := by
          congr 1; funext i x; congr 1; omega
        rw [e, this]; rfl
  have hs0 : SRs E ⟨args.mapIdx (fun i x => (i, .v x)), [], 1000⟩ { tmps := vs.toArray ++ Array.replicate (fn.ntmps - vs.toArray.size) undef, defers := [] } w := by
    refine ⟨⟨⟨rd, fun n => n < 1000, fun _ => none, fun _ => 0, fun _ => 0⟩, ?_, ⟨hrd, ?_, fun _ _ => rfl, ?_, ?_, ?_, ?_, ?_⟩, fun _ _ => rfl, ⟨Wf.refl _ _, ⟨fun _ _ _ h => h, fun _ h => h.elim, fun _ h => h.elim⟩, fun n ob hn => by simp [Dom.hget] at hn⟩, rfl, ?_, ?_⟩, fun n hn => hn.elim⟩
    · intro n; simp
    · intro n ob hn; simp [Dom.hget] at hn
    · intro n ob hn; simp [Dom.hget] at hn
    · intro n m ob oc hn; simp [Dom.hget] at hn
    · intro n ob hn; simp [Dom.hget] at hn
    · intro n ob hn; simp [Dom.hget] at hn
    · intro n ob hn; simp [Dom.hget] at hn
    · show (vs.toArray ++ Array.replicate (fn.ntmps - vs.toArray.size) undef).size = fn.ntmps
      simp; omega
    · intro k
      have := hget args 0 k
      simp only [Nat.add_zero] at this
      rw [this]
      cases hk : args[k]? with
      | none => exact .u _
      | some x =>
        obtain ⟨v, hv, hxv⟩ := hargs.get hk
        have hlt : k < vs.length := (List.getElem?_eq_some_iff.1 hv).1
        refine .v ?_
        have e : (vs.toArray ++ Array.replicate (fn.ntmps - vs.toArray.size) undef).getD k undef = v := by
          rw [Array.getD_eq_getD_getElem?, Array.getElem?_append_left (by simpa using hlt)]
          simp [hv]
        show PR rd x ((vs.toArray ++ Array.replicate (fn.ntmps - vs.toArray.size) undef).getD k undef)
        rw [e]; exact hxv
  refine wp_mono (aw_ok (E := E) hm (fun b hb => hb) code sc hcomp _ _ _ _ h hs0) ?_
  rintro e a' w' ⟨x, s, hxr, ⟨hx, hq⟩, hsr⟩
  obtain ⟨⟨C, hal, hh, hrd', ⟨hwf, -, -⟩, hdf, hsz, htm⟩, -⟩ := hsr
  split at hq
  · rename_i l p hl
    obtain ⟨hp, rfl⟩ := hq
    have : ∀ b, Decidable (∃ n ob, Dom.hget s.h n = some ob ∧ C.mu n = b) := fun b => Classical.propDecidable _
    obtain ⟨us, hus, hrel⟩ := res_ok (P := P) hh htm fn.results.toList rs hres l p hl hp
    have hrun : (results fn a'.tmps).run P w' = .ok (if h : us.length = 1 then us[0] else .tuple us.toArray) w' := by
      have key : results fn a'.tmps = (Functor.map List.toArray (fn.results.toList.mapM (fun
          | .tmp t => pure (a'.tmps.getD t undef)
          | .cell q ty => do loadVar ty (← asAddr (a'.tmps.getD q undef)) : ResultVar → Sem Value))) >>= fun vs => pure (if h : vs.size = 1 then vs[0] else .tuple vs) := by
        unfold results; rw [Array.mapM_eq_mapM_toList]; rfl
      rw [key]
      simp only [Sem.run_bind, Sem.run_map, hus, Result.andThen, Sem.run_pure]
      by_cases h1 : us.length = 1
      · simp [h1]
      · simp [h1]
    have hbelow : Below w.heap.size w w' := ⟨hwf.os, hwf.tape, hwf.output, hwf.size, fun k hk => hwf.blk k hk (by show ¬ (w.heap.size ≤ k); omega)⟩
    have hle : ∀ b o v, viewRd C (Dom.hget s.h) w' b o = some v → extRd rd w w' b o = some v := by
      intro b o v hv
      unfold viewRd at hv
      unfold extRd
      by_cases hb : b < w.heap.size
      · rw [if_pos hb]
        split at hv
        · rename_i hex
          obtain ⟨n, ob, hn, hmu⟩ := hex
          have := hh.wr n ob hn
          have : w.heap.size ≤ C.mu n := this
          omega
        · rw [hrd' b hb] at hv; exact hv
      · rw [if_neg hb]
        split at hv
        · exact hv
        · exact hh.rdw _ _ _ hv
    have hpr : PR (extRd rd w w') (mkRes l) (if h : us.length = 1 then us[0] else .tuple us.toArray) := by
      have hrel' : RelL (PR (extRd rd w w')) l us := hrel.imp fun x v hx => hx.mono hle
      unfold mkRes
      split
      · rename_i y
        obtain ⟨v, us', rfl, hv, hnil⟩ := hrel'.uncons
        rw [hnil.nil_inv]
        simpa using hv
      · rename_i hne
        have hl1 : us.length ≠ 1 := by
          intro h1
          have := hrel'.1
          rw [h1] at this
          obtain ⟨y, rfl⟩ := List.length_eq_one_iff.1 this
          exact hne y rfl
        rw [dif_neg hl1]
        exact .tup l us hrel'.1 hrel'.2
    cases hxr with
    | normal => exact ⟨hdf, _, hrun, _, rfl, hbelow, hpr⟩
    | ret => exact ⟨hdf, _, hrun, _, rfl, hbelow, hpr⟩
    | exit id => exact hx.elim
  · exact hq.elim

end
end Go.Dom
